/- (*Link).Spoil, by its contract. -/
import Derived.Test.YtejlpdcoaejciaaLinkSend
import Derived.Laws.BitsAllLaws
namespace Go.Proofs.Ytejlpdcoaejciaa
open Go.RowKit

/-- The flight with one byte turned. -/
def turnF (f : FlightR) (a : Nat) (M : UInt8) : FlightR := { f with l := f.l.set a ((f.l.getD a 0) ^^^ M), sp := true }
def SpoilIs (base g : Nat) (nodes most next : Int) (v : Value) (fs : List FlightR) (k at' : Int) (M : UInt8) (w : World) (e : Ending) (w' : World) : Prop :=
  (e = .returned (.int .i64 160) ∧ (∀ f ∈ fs, f.num ≠ k) ∧ Below w.heap.size w w') ∨
  ∃ (i : Nat) (h : i < fs.length), fs[i].num = k ∧
    ((¬ (0 ≤ at' ∧ at' < (fs[i].l.length : Int) ∧ M ≠ 0) ∧ e = .returned (.int .i64 12) ∧ Below w.heap.size w w') ∨
     ((0 ≤ at' ∧ at' < (fs[i].l.length : Int) ∧ M ≠ 0) ∧ fs[i].sp = true ∧ e = .returned (.int .i64 162) ∧ Below w.heap.size w w') ∨
     ((0 ≤ at' ∧ at' < (fs[i].l.length : Int) ∧ M ≠ 0) ∧ fs[i].sp = false ∧ e = .returned (.int .i64 0) ∧ LinkAt w' base g nodes most next v (fs.set i (turnF fs[i] at'.toNat M)) ∧ Chg (fun j => v.ownBlock = some j ∨ fs[i].v.ownBlock = some j) w w'))

theorem fflat_set (fs : List FlightR) (i : Nat) (h : i < fs.length) (a : Nat) (M : UInt8) : (fflat fs).set (i * 5 + 4) (.bool true) = fflat (fs.set i (turnF fs[i] a M)) := by
  induction fs generalizing i with
  | nil => simp at h
  | cons f fs ih =>
    cases i with
    | zero => rfl
    | succ i =>
      rw [show fflat (f :: fs) = fcells f ++ fflat fs from rfl, List.set_append_right _ _ (by simp [fcells]; omega), List.set_cons_succ]
      rw [show fflat (f :: fs.set i (turnF (f :: fs)[i + 1] a M)) = fcells f ++ fflat (fs.set i (turnF (f :: fs)[i + 1] a M)) from rfl]
      congr 1
      have := ih i (by simpa using h)
      rw [show (i + 1) * 5 + 4 - (fcells f).length = i * 5 + 4 by simp [fcells]; omega, this]
      rfl
theorem map_set_v (fs : List FlightR) (i : Nat) (h : i < fs.length) (a : Nat) (M : UInt8) : (fs.set i (turnF fs[i] a M)).map (·.v) = fs.map (·.v) := by
  rw [List.map_set]
  apply List.ext_getElem?
  intro j
  by_cases hj : i = j
  · subst hj
    rw [List.getElem?_set_self (by simpa using h), List.getElem?_map, List.getElem?_eq_getElem h]
    rfl
  · rw [List.getElem?_set_ne hj]
theorem vals_set16 (l : List UInt8) (k : Nat) (x : UInt8) : vals (l.set k x) = (vals l).set k (u8 x) := by simp [vals, List.map_set]
theorem u8_xor16 (x y : UInt8) : bits .xor .u8 (x.toNat : Int) (y.toNat : Int) = ((x ^^^ y).toNat : Int) := by
  rw [u8_xor_nat _ _ x.toNat_lt y.toNat_lt, UInt8.toNat_xor]

set_option maxHeartbeats 1600000 in
set_option maxRecDepth 100000 in
theorem spoil_any (base g : Nat) (nodes most next : Int) (v : Value) (fs : List FlightR) (k at' : Int) (M : UInt8) (w : World) (hL : LinkAt w base g nodes most next v fs) (hn : fs.length ≤ 1048577) (hs : ∀ i j (hi : i < fs.length) (hj : j < fs.length), i < j → fs[i].num < fs[j].num) :
    Calls Try.prog 17 #[.pointer (some ⟨g, 0, none⟩), .int .i64 k, .int .i64 at', .int .u8 (M.toNat : Int)] w (SpoilIs base g nodes most next v fs k at' M w) := by
  have HFI := Lib.hid (find16_any base g nodes most next v fs k w hL hn hs)
  have HL := Lib.hid hL
  clear hL hs
  go_enter Try.func17, Try.ntmps17
  go_wp2_with (fail)
  refine HFI.out.mono ?_
  rintro e w2 ⟨r, rfl, hr, hb2⟩
  have HB2 := Lib.hid hb2
  have HL2 := Lib.hid (HL.out.kept hb2)
  rcases hr with ⟨rfl, hno⟩ | ⟨i, rfl, hi, hnum⟩
  · have HNO := Lib.hid hno
    clear hno hb2
    go_wp2
    go_ret
    exact .inl ⟨rfl, HNO.out, HB2.out⟩
  · obtain ⟨A, c, hv, hfl, _, hc, _⟩ := own_flights HL2.out.2.2.1
    obtain ⟨b, rfl, hbl, q0, q1, q2, q3, q4⟩ := hfl i hi
    have hof := HL2.out.2.2.2.1 _ (List.getElem_mem hi)
    obtain ⟨F, hF⟩ : ∃ F, F = fs[i]'hi := ⟨_, rfl⟩
    rw [← hF] at q0 q1 q2 q3 q4 hof hnum
    obtain ⟨_, Af, cf, hfv, hbf, _, hcf, _⟩ := own_bytes hof
    have n3 : w2.cell? ⟨g, 3, none⟩ = some (.slice (some ⟨b, 0, none⟩) fs.length c) := by rw [cell_of_row w2 g _ _ _ (0, 0) HL2.out.1, ← hv]; rfl
    rw [hfv] at q3
    obtain ⟨n, hn'⟩ : ∃ n, n = fs.length := ⟨_, rfl⟩
    have hin : i < n := by omega
    have hini : (i : Int) < (n : Int) := by omega
    have i0 : (0 : Int) ≤ (i : Int) := by omega
    have q3' : w2.cell? ⟨b, i * 5 + 1 + 2, none⟩ = some (.slice Af F.l.length cf) := q3
    obtain ⟨fl, hfl'⟩ : ∃ fl, fl = F.l := ⟨_, rfl⟩
    rw [← hfl'] at q3 q3' hcf
    obtain ⟨sp, hsp⟩ : ∃ sp, sp = F.sp := ⟨_, rfl⟩
    rw [← hsp] at q4
    rw [← hn'] at n3
    have hM := M.toNat_lt
    have HN := Lib.hid hn'
    have HF := Lib.hid hF
    have HNU := Lib.hid hnum
    have HFV := Lib.hid hfv
    have HBF := Lib.hid hbf
    have HV := Lib.hid hv
    have HOF := Lib.hid hof
    have HFL := Lib.hid hfl'
    have HSP := Lib.hid hsp
    clear hb2 hfl q0 q1 q2 hn' hF hnum hfv hbf hv hof hfl' hsp hn
    by_cases hok : 0 ≤ at' ∧ at' < (fl.length : Int) ∧ M ≠ 0
    · obtain ⟨h1, h2, h3⟩ := hok
      have d1 : decide (at' < 0) = false := decide_eq_false (by omega)
      have d2 : decide ((fl.length : Int) ≤ at') = false := decide_eq_false (by omega)
      have d3 : ((M.toNat : Int) == 0) = false := by
        rw [beq_eq_false_iff_ne]; intro h; exact h3 (UInt8.toNat.inj (by rw [show (0 : UInt8).toNat = 0 from rfl]; omega))
      obtain ⟨a, rfl⟩ := Int.eq_ofNat_of_zero_le h1
      have ha : a < fl.length := by omega
      have HOK := Lib.hid (show (0 : Int) ≤ (a : Int) ∧ (a : Int) < (fl.length : Int) ∧ M ≠ 0 from ⟨h1, h2, h3⟩)
      clear h3
      cases sp with
      | true =>
        go_wp2
        go_ret
        refine .inr ⟨i, hi, by rw [← HF.out]; exact HNU.out, .inr (.inl ⟨?_, ?_, rfl, HB2.out⟩)⟩
        · rw [← HF.out, ← HFL.out]; exact HOK.out
        · rw [← HF.out]; exact HSP.out.symm
      | false =>
        obtain ⟨fb, rfl⟩ : ∃ fb, Af = some ⟨fb, 0, none⟩ := by
          obtain ⟨b', o', h1, _⟩ := HBF.out a (by rw [← HFL.out]; exact ha)
          rcases HOF.out.2 with ⟨h, _⟩ | ⟨fb, cap, cur, h, _⟩
          · rw [HFV.out] at h; simp only [Value.slice.injEq] at h; rw [h.1] at h1; cases h1
          · rw [HFV.out] at h; simp only [Value.slice.injEq] at h; exact ⟨fb, h.1⟩
        obtain ⟨_, _, hAe, hfbl, c0⟩ := HBF.out a (by rw [← HFL.out]; exact ha)
        cases hAe
        rw [Nat.zero_add, ← HFL.out] at c0
        have hof := HOF.out
        rw [HFV.out, ← HFL.out] at hof
        have hov := HL2.out.2.2.1
        rw [HV.out] at hov
        have f0 := hof.frozenAt a
        have f4 := hov.frozenAt (i * 5 + 4)
        have hne : ¬ b = fb := by
          rcases hov.2 with ⟨h, _⟩ | ⟨gg, cap, cur, h, _, hh, _⟩
          · cases h
          · simp only [Value.slice.injEq, Option.some.injEq, Addr.mk.injEq] at h
            rw [← h.1.1] at hh
            intro e
            subst e
            exact own_ne hof hh (by decide) rfl
        have hne' : ¬ fb = b := fun e => hne e.symm
        have hbg : b ≠ g := fun e => own_ne hov HL2.out.1 (by decide) (by rw [e]; rfl)
        have hfg : fb ≠ g := fun e => own_ne hof HL2.out.1 (by decide) (by rw [e]; rfl)
        obtain ⟨X, hX⟩ : ∃ X, X = fl.getD a 0 := ⟨_, rfl⟩
        rw [← hX] at c0
        have hE := u8_xor16 X M
        obtain ⟨Y, hY⟩ : ∃ Y, Y = X ^^^ M := ⟨_, rfl⟩
        rw [← hY] at hE
        have s1 := (hof.stored a (.int .u8 (Y.toNat : Int))).1
        have hvs : (vals fl).set a (.int .u8 (Y.toNat : Int)) = vals (fl.set a (fl.getD a 0 ^^^ M)) := by
          rw [vals_set16, ← hX, ← hY]; rfl
        rw [hvs] at s1
        have hov1 := own_set hov (p := ⟨fb, a, none⟩) (by simp [Value.ownBlock]; exact hne) (.int .u8 (Y.toNat : Int))
        have s2 := (hov1.stored (i * 5 + 4) (.bool true)).1
        rw [fflat_set fs i hi a M] at s2
        have s3 := own_set s1 (p := ⟨b, i * 5 + 4, none⟩) (by simp [Value.ownBlock]; exact hne') (.bool true)
        have hG := HL2.out.1
        have HFIN := Lib.hid (show LinkAt ((w2.setCell ⟨fb, a, none⟩ (.int .u8 (Y.toNat : Int))).setCell ⟨b, i * 5 + 4, none⟩ (.bool true)) base g nodes most next v (fs.set i (turnF (fs[i]'hi) a M)) from by
          refine ⟨?_, HL2.out.2.1, ?_, ?_, ?_⟩
          · rw [Below.heap_setCell _ _ _ _ (by simp; exact hbg.symm), Below.heap_setCell _ _ _ _ (by simp; exact hfg.symm)]; exact hG
          · rw [List.length_set, HV.out]; exact s2
          · intro f hf
            obtain ⟨j, hj, rfl⟩ := List.mem_iff_getElem.1 hf
            have hj' : j < fs.length := by rwa [List.length_set] at hj
            by_cases hji : i = j
            · subst hji
              rw [List.getElem_set_self]
              have hvv : ((turnF (fs[i]'hi) a M)).v = .slice (some ⟨fb, 0, none⟩) fl.length cf := by rw [← HF.out, HFL.out]; exact HFV.out
              have hl : (turnF (fs[i]'hi) a M).l = fl.set a (fl.getD a 0 ^^^ M) := by rw [← HF.out, HFL.out]; rfl
              rw [hvv, hl, List.length_set]
              exact s3
            · rw [List.getElem_set_ne hji]
              have hap : Apart (fs[j]'hj').v (fs[i]'hi).v := by
                have hp := List.pairwise_iff_getElem.1 HL2.out.2.2.2.2
                rcases Nat.lt_or_gt_of_ne hji with h | h
                · have := hp i j (by simpa using hi) (by simpa using hj') h
                  exact Apart.symm (by simpa using this)
                · have := hp j i (by simpa using hj') (by simpa using hi) h
                  simpa using this
              have hoj := HL2.out.2.2.2.1 _ (List.getElem_mem hj')
              refine own_set (own_set hoj (p := ⟨fb, a, none⟩) (fun e => hap.ne fb e ?_) _) (p := ⟨b, i * 5 + 4, none⟩) (fun e => ?_) _
              · rw [← HF.out, HFV.out]; rfl
              · rcases hov.2 with ⟨h, _⟩ | ⟨gg, cap, cur, h, _, hh, _⟩
                · cases h
                · simp only [Value.slice.injEq, Option.some.injEq, Addr.mk.injEq] at h
                  rw [← h.1.1] at hh
                  exact own_ne hoj hh (by decide) e
          · rw [map_set_v]; exact HL2.out.2.2.2.2)
        have HCH := Lib.hid (show Chg (fun j => v.ownBlock = some j ∨ (fs[i]'hi).v.ownBlock = some j) w ((w2.setCell ⟨fb, a, none⟩ (.int .u8 (Y.toNat : Int))).setCell ⟨b, i * 5 + 4, none⟩ (.bool true)) from
          ((Chg.ofBelow HB2.out).setCell (.inl (.inr (by rw [← HF.out, HFV.out]; rfl))) _).setCell (.inl (.inl (by rw [HV.out]; rfl))) _)
        clear s1 s2 s3 hov1 hvs hY hX hG hof hov hbg hfg
        go_wp2
        go_ret
        refine .inr ⟨i, hi, by rw [← HF.out]; exact HNU.out, .inr (.inr ⟨?_, ?_, rfl, HFIN.out, HCH.out⟩)⟩
        · rw [← HF.out, ← HFL.out]; exact HOK.out
        · rw [← HF.out]; exact HSP.out.symm
    · have hbad : at' < 0 ∨ (fl.length : Int) ≤ at' ∨ M = 0 := by
        rcases Int.lt_or_le at' 0 with h | h
        · exact .inl h
        · rcases Int.lt_or_le at' (fl.length : Int) with h2 | h2
          · right; right
            cases Classical.em (M = 0) with
            | inl h3 => exact h3
            | inr h3 => exact absurd ⟨h, h2, h3⟩ hok
          · exact .inr (.inl h2)
      have HOK := Lib.hid hok
      clear hok
      have hend : ∀ w', Below w2.heap.size w2 w' → SpoilIs base g nodes most next v fs k at' M w (.returned (.int .i64 12)) w' := fun w' h =>
        .inr ⟨i, hi, by rw [← HF.out]; exact HNU.out, .inl ⟨by rw [← HF.out, ← HFL.out]; exact HOK.out, rfl, HB2.out.trans (h.mono HB2.out.size)⟩⟩
      have HEND := Lib.hid hend
      clear hend
      rcases hbad with h | h | h
      · have d1 : decide (at' < 0) = true := decide_eq_true h
        clear h
        go_wp2
        go_ret
        exact HEND.out _ (Below.refl _ _)
      · have d2 : (fl.length : Int) ≤ at' := h
        have d1 : ¬ at' < 0 := by omega
        go_wp2
        go_ret
        exact HEND.out _ (Below.refl _ _)
      · subst h
        by_cases d1 : at' < 0
        · go_wp2
          go_ret
          exact HEND.out _ (Below.refl _ _)
        · by_cases d2 : (fl.length : Int) ≤ at'
          · go_wp2
            go_ret
            exact HEND.out _ (Below.refl _ _)
          · go_wp2
            go_ret
            exact HEND.out _ (Below.refl _ _)
end Go.Proofs.Ytejlpdcoaejciaa
