/- (*Link).find, by its contract: the binary search. -/
import Derived.Test.YtejlpdcoaejciaaLinkBegin
import Derived.Deep.CutBlock
namespace Go.Proofs.Ytejlpdcoaejciaa
open Go.RowKit

/-- The slice that begins at A holds the flights fs. -/
def FlAt (w : World) (A : Option Addr) (fs : List FlightR) : Prop :=
  ∀ k (h : k < fs.length), ∃ b, A = some ⟨b, 0, none⟩ ∧ b < w.heap.size ∧ w.cell? ⟨b, k * 5, none⟩ = some (.int .i64 fs[k].num) ∧ w.cell? ⟨b, k * 5 + 1, none⟩ = some (.int .i64 fs[k].a) ∧ w.cell? ⟨b, k * 5 + 2, none⟩ = some (.int .i64 fs[k].b) ∧ w.cell? ⟨b, k * 5 + 3, none⟩ = some fs[k].v ∧ w.cell? ⟨b, k * 5 + 4, none⟩ = some (.bool fs[k].sp)
theorem FlAt.below {w w' : World} {A : Option Addr} {fs : List FlightR} (h : FlAt w A fs) (hb : Below w.heap.size w w') : FlAt w' A fs := by
  intro k hk
  obtain ⟨b, hA, hl, h0, h1, h2, h3, h4⟩ := h k hk
  have hs := hb.size
  exact ⟨b, hA, by omega, (hb.cell (p := ⟨b, _, none⟩) hl).trans h0, (hb.cell (p := ⟨b, _, none⟩) hl).trans h1, (hb.cell (p := ⟨b, _, none⟩) hl).trans h2, (hb.cell (p := ⟨b, _, none⟩) hl).trans h3, (hb.cell (p := ⟨b, _, none⟩) hl).trans h4⟩
theorem fflat_get (fs : List FlightR) (k : Nat) (h : k < fs.length) : (fflat fs)[k * 5]? = some (.int .i64 fs[k].num) ∧ (fflat fs)[k * 5 + 1]? = some (.int .i64 fs[k].a) ∧ (fflat fs)[k * 5 + 2]? = some (.int .i64 fs[k].b) ∧ (fflat fs)[k * 5 + 3]? = some fs[k].v ∧ (fflat fs)[k * 5 + 4]? = some (.bool fs[k].sp) := by
  induction fs generalizing k with
  | nil => simp at h
  | cons f fs ih =>
    rw [show fflat (f :: fs) = fcells f ++ fflat fs from rfl]
    cases k with
    | zero => exact ⟨rfl, rfl, rfl, rfl, rfl⟩
    | succ k =>
      have h5 : ∀ j, (fcells f ++ fflat fs)[(k + 1) * 5 + j]? = (fflat fs)[k * 5 + j]? := fun j => by
        rw [List.getElem?_append_right (by simp [fcells]; omega)]
        congr 1
        simp [fcells]; omega
      obtain ⟨i0, i1, i2, i3, i4⟩ := ih k (by simpa using h)
      exact ⟨(h5 0).trans i0, (h5 1).trans i1, (h5 2).trans i2, (h5 3).trans i3, (h5 4).trans i4⟩
theorem own_flights {w : World} {base : Nat} {v : Value} {fs : List FlightR} (h : w.ownsRow base 82 5 v fs.length (fflat fs)) : ∃ A c, v = .slice A fs.length c ∧ FlAt w A fs ∧ (A = none → c = 0) ∧ fs.length ≤ c ∧ c ≤ 9223372036854775807 := by
  rcases h.2 with ⟨rfl, hn⟩ | ⟨g, cap, cur, rfl, hg, hh, hnc, hcm, hsz, ht⟩
  · exact ⟨none, 0, by rw [hn], fun k hk => by omega, fun _ => rfl, by omega, by omega⟩
  · refine ⟨some ⟨g, 0, none⟩, cap, rfl, fun k hk => ?_, (fun h => by cases h), hnc, by simpa [maxLen] using hcm⟩
    have hx : ∀ j u, (fflat fs)[j]? = some u → w.cell? ⟨g, j, none⟩ = some u := fun j u hu => by
      have hj : j < (fflat fs).length := (List.getElem?_eq_some_iff.1 hu).1
      rw [fflat_len] at hj
      rw [← ht, List.getElem?_take, if_pos (by omega)] at hu
      rw [cell_of_row w g _ cur _ (0, 0) hh]
      simpa using hu
    obtain ⟨f0, f1, f2, f3, f4⟩ := fflat_get fs k hk
    exact ⟨g, rfl, (Array.getElem?_eq_some_iff.1 hh).1, hx _ _ f0, hx _ _ f1, hx _ _ f2, hx _ _ f3, hx _ _ f4⟩

theorem find1_any (num a b k : Int) (v : Value) (sp : Bool) (w : World) :
    Calls Try.prog 53 #[flightV num a b v sp, .int .i64 k] w fun e w' => e = .returned (.int .i64 (if num < k then -1 else if k < num then 1 else 0)) ∧ Below w.heap.size w w' := by
  unfold flightV
  rcases Int.lt_trichotomy num k with h | h | h
  · rw [if_pos h]
    go_enter Try.func53, Try.ntmps53
    go_wp2
    go_ret
    exact ⟨rfl, (Below.refl _ _).alloc (Nat.le_refl _) _⟩
  · subst h
    rw [if_neg (by omega), if_neg (by omega)]
    go_enter Try.func53, Try.ntmps53
    go_wp2
    go_ret
    exact ⟨rfl, (Below.refl _ _).alloc (Nat.le_refl _) _⟩
  · rw [if_neg (by omega), if_pos h]
    have h' : ¬ num < k := by omega
    go_enter Try.func53, Try.ntmps53
    go_wp2
    go_ret
    exact ⟨rfl, (Below.refl _ _).alloc (Nat.le_refl _) _⟩
/-- What the binary search answers. -/
def FoundIs (fs : List FlightR) (k : Int) (w : World) (e : Ending) (w' : World) : Prop :=
  ∃ (i : Nat) (ok : Bool), e = .returned (.tuple #[.int .i64 (i : Int), .bool ok]) ∧ i ≤ fs.length ∧ (ok = true → ∃ h : i < fs.length, fs[i].num = k) ∧ (ok = false → ∀ f ∈ fs, f.num ≠ k) ∧ Below w.heap.size w w'

set_option maxHeartbeats 1600000 in
set_option maxRecDepth 100000 in
theorem bsf_any (A : Option Addr) (c : Nat) (fs : List FlightR) (k : Int) (w : World) (hf : FlAt w A fs) (hv : ∀ f ∈ fs, ∃ A0 n0 c0, f.v = .slice A0 n0 c0) (hn : fs.length ≤ 1048577) (hs : ∀ i j (hi : i < fs.length) (hj : j < fs.length), i < j → fs[i].num < fs[j].num) :
    Calls Try.prog 52 #[.slice A fs.length c, .int .i64 k, .func (.func 53) #[] #[]] w (FoundIs fs k w) := by
  obtain ⟨n, hn'⟩ : ∃ n, n = fs.length := ⟨_, rfl⟩
  rw [← hn'] at hn ⊢
  have HF := Lib.hid hf
  have HV := Lib.hid hv
  have HS := Lib.hid hs
  have HN := Lib.hid hn'
  clear hf hv hs hn'
  go_enter Try.func52, Try.ntmps52
  go_upto_block 0 with (fail)
  go_cut [9] (fun i' wx => ∃ i : Nat, i ≤ n ∧ i' = .int .i64 (i : Int) ∧ (∀ t (h : t < fs.length), t < i → fs[t].num < k) ∧ (∀ t (h : t < fs.length), i ≤ t → k ≤ fs[t].num) ∧ Below w.heap.size w wx)
  case first =>
    go_wp2
    go_loopw [9, 10] (fun i' j' wr => ∃ i j : Nat, i ≤ j ∧ j ≤ n ∧ i' = .int .i64 (i : Int) ∧ j' = .int .i64 (j : Int) ∧ (∀ t (h : t < fs.length), t < i → fs[t].num < k) ∧ (∀ t (h : t < fs.length), j ≤ t → k ≤ fs[t].num) ∧ Below w.heap.size w wr)
      (fun i' j' _ => (intOf j').toNat - (intOf i').toNat)
    case atStart => exact ⟨0, n, Nat.zero_le _, Nat.le_refl _, rfl, rfl, fun t h h2 => by omega, fun t h h2 => by have := HN.out; omega, Below.refl _ _⟩
    case round =>
      obtain ⟨i, j, hij, hj, rfl, rfl, h1, h2, hb⟩ := hrel
      have H1 := Lib.hid h1
      have H2 := Lib.hid h2
      have HB := Lib.hid hb
      clear h1 h2 hb
      by_cases hlt : i < j
      · obtain ⟨m, hm⟩ : ∃ m, m = (i + j) / 2 := ⟨_, rfl⟩
        have hmj : m < j := by omega
        have him : i ≤ m := by omega
        have hmfs : m < fs.length := by rw [← HN.out]; omega
        obtain ⟨b, rfl, hbl, q0, q1, q2, q3, q4⟩ := HF.out m hmfs
        have hvm := HV.out (fs[m]'hmfs) (List.getElem_mem _)
        obtain ⟨F, hF⟩ : ∃ F, F = fs[m]'hmfs := ⟨_, rfl⟩
        rw [← hF] at q0 q1 q2 q3 q4 hvm
        obtain ⟨fn, fa, fb, fl, fsp, fv⟩ := F
        have r0 := (HB.out.cell (p := ⟨b, m * 5, none⟩) hbl).trans q0
        have r1 := (HB.out.cell (p := ⟨b, m * 5 + 1, none⟩) hbl).trans q1
        have r2 := (HB.out.cell (p := ⟨b, m * 5 + 2, none⟩) hbl).trans q2
        have r3 := (HB.out.cell (p := ⟨b, m * 5 + 3, none⟩) hbl).trans q3
        have r4 := (HB.out.cell (p := ⟨b, m * 5 + 4, none⟩) hbl).trans q4
        have hlti : (i : Int) < (j : Int) := by omega
        have hmid : ((i : Int) + (j : Int)) / 2 = (m : Int) := by omega
        have m0 : (0 : Int) ≤ (m : Int) := by omega
        have mn : (m : Int) < (n : Int) := by omega
        have HC := Lib.hid (find1_any fn fa fb k fv fsp wr)
        unfold flightV at HC
        have HM := Lib.hid hm
        have HFm := Lib.hid hF
        clear q0 q1 q2 q3 q4 hm hF
        obtain ⟨A0, n0, c0, rfl⟩ : ∃ A0 n0 c0, fv = .slice A0 n0 c0 := hvm
        case _ =>
          by_cases hfk : fn < k
          · rw [if_pos hfk] at HC
            go_wp2_with (fail)
            refine HC.out.mono ?_
            rintro e w2 ⟨rfl, hb2⟩
            have HB2 := Lib.hid (HB.out.trans (hb2.mono HB.out.size))
            clear r0 r1 r2 r3 r4 hb2
            go_wp2
            go_roundw
            case rel =>
              refine ⟨m + 1, j, by omega, hj, by go_num, rfl, fun t ht h => ?_, H2.out, HB2.out⟩
              rcases Nat.lt_or_ge t m with h' | h'
              · have := HS.out t m ht hmfs h'
                rw [← HFm.out] at this
                exact Int.lt_trans this hfk
              · obtain rfl : t = m := by omega
                rw [← HFm.out]; exact hfk
            case measure => simp [intOf]; omega
          · rw [if_neg hfk] at HC
            have hfk' : k ≤ fn := by omega
            have HFK := Lib.hid hfk'
            clear hfk'
            have hge : (if k < fn then (1 : Int) else 0) < 0 ↔ False := by split <;> simp
            obtain ⟨z, hz⟩ : ∃ z : Int, z = if k < fn then (1 : Int) else 0 := ⟨_, rfl⟩
            have hz0 : ¬ z < 0 := by rw [hz, hge]; exact id
            rw [← hz] at HC
            clear hge hz
            go_wp2_with (fail)
            refine HC.out.mono ?_
            rintro e w2 ⟨rfl, hb2⟩
            have HB2 := Lib.hid (HB.out.trans (hb2.mono HB.out.size))
            clear r0 r1 r2 r3 r4 hb2
            go_wp2
            go_roundw
            case rel =>
              refine ⟨i, m, him, by omega, rfl, rfl, H1.out, fun t ht h => ?_, HB2.out⟩
              rcases Nat.lt_or_ge m t with h' | h'
              · have := HS.out m t hmfs ht h'
                rw [← HFm.out] at this
                simp only at this
                omega
              · obtain rfl : t = m := by omega
                rw [← HFm.out]; exact HFK.out
            case measure => simp [intOf]; omega
      · obtain rfl : i = j := by omega
        go_wp2
        go_meet
        exact ⟨i, hj, rfl, H1.out, H2.out, HB.out⟩
  case rest =>
    obtain ⟨i, hi, rfl, h1, h2, hb⟩ := hcut
    have H1 := Lib.hid h1
    have H2 := Lib.hid h2
    have HB := Lib.hid hb
    clear h1 h2 hb
    by_cases hlt : i < n
    · have hifs : i < fs.length := by rw [← HN.out]; exact hlt
      obtain ⟨b, rfl, hbl, q0, q1, q2, q3, q4⟩ := HF.out i hifs
      have hvm := HV.out (fs[i]'hifs) (List.getElem_mem _)
      obtain ⟨F, hF⟩ : ∃ F, F = fs[i]'hifs := ⟨_, rfl⟩
      rw [← hF] at q0 q1 q2 q3 q4 hvm
      obtain ⟨fn, fa, fb, fl, fsp, fv⟩ := F
      have r0 := (HB.out.cell (p := ⟨b, i * 5, none⟩) hbl).trans q0
      have r1 := (HB.out.cell (p := ⟨b, i * 5 + 1, none⟩) hbl).trans q1
      have r2 := (HB.out.cell (p := ⟨b, i * 5 + 2, none⟩) hbl).trans q2
      have r3 := (HB.out.cell (p := ⟨b, i * 5 + 3, none⟩) hbl).trans q3
      have r4 := (HB.out.cell (p := ⟨b, i * 5 + 4, none⟩) hbl).trans q4
      have hlti : (i : Int) < (n : Int) := by omega
      have i0 : (0 : Int) ≤ (i : Int) := by omega
      have HC := Lib.hid (find1_any fn fa fb k fv fsp wc)
      unfold flightV at HC
      have hnk : ¬ fn < k := by
        have := H2.out i hifs (Nat.le_refl _)
        rw [← hF] at this
        have h3 : k ≤ fn := this
        omega
      rw [if_neg hnk] at HC
      have HFm := Lib.hid hF
      obtain ⟨z, hz⟩ : ∃ z : Int, z = if k < fn then (1 : Int) else 0 := ⟨_, rfl⟩
      rw [← hz] at HC
      have HZ := Lib.hid hz
      clear q0 q1 q2 q3 q4 hF hz
      obtain ⟨A0, n0, c0, rfl⟩ : ∃ A0 n0 c0, fv = .slice A0 n0 c0 := hvm
      go_wp2_with (fail)
      refine HC.out.mono ?_
      rintro e w2 ⟨rfl, hb2⟩
      have HB2 := Lib.hid (HB.out.trans (hb2.mono HB.out.size))
      clear r0 r1 r2 r3 r4 hb2
      go_wp2
      go_ret2
      refine ⟨i, z == 0, rfl, by rw [← HN.out]; exact hi, fun h => ⟨hifs, ?_⟩, fun h f hf => ?_, HB2.out⟩
      · rw [← HFm.out]
        have hz := HZ.out
        rw [beq_iff_eq] at h
        rw [h] at hz
        show fn = k
        split at hz
        · cases hz
        · omega
      · have hz := HZ.out
        rw [beq_eq_false_iff_ne] at h
        have hkf : k < fn := by
          rcases Int.lt_or_le k fn with h' | h'
          · exact h'
          · rw [if_neg (by omega)] at hz; exact absurd hz h
        obtain ⟨t, ht, rfl⟩ := List.mem_iff_getElem.1 hf
        rcases Nat.lt_trichotomy t i with h' | h' | h'
        · have := H1.out t ht h'; omega
        · subst h'; rw [← HFm.out]; show fn ≠ k; omega
        · have := HS.out i t hifs ht h'
          rw [← HFm.out] at this
          have h3 : fn < fs[t].num := this
          omega
    · obtain rfl : i = n := by omega
      go_wp2
      go_ret2
      refine ⟨i, false, rfl, by rw [← HN.out]; exact hi, (fun h => by cases h), fun _ f hf => ?_, HB.out⟩
      obtain ⟨t, ht, rfl⟩ := List.mem_iff_getElem.1 hf
      have := H1.out t ht (by rw [HN.out]; exact ht)
      omega

/-- What 'find' answers. -/
def FindIs (fs : List FlightR) (k : Int) (w : World) (e : Ending) (w' : World) : Prop :=
  ∃ r : Int, e = .returned (.int .i64 r) ∧ ((r = -1 ∧ ∀ f ∈ fs, f.num ≠ k) ∨ ∃ i : Nat, r = (i : Int) ∧ ∃ h : i < fs.length, fs[i].num = k) ∧ Below w.heap.size w w'

set_option maxRecDepth 100000 in
theorem find16_any (base g : Nat) (nodes most next : Int) (v : Value) (fs : List FlightR) (k : Int) (w : World) (hL : LinkAt w base g nodes most next v fs) (hn : fs.length ≤ 1048577) (hs : ∀ i j (hi : i < fs.length) (hj : j < fs.length), i < j → fs[i].num < fs[j].num) :
    Calls Try.prog 35 #[.pointer (some ⟨g, 0, none⟩), .int .i64 k] w (FindIs fs k w) := by
  obtain ⟨A, c, rfl, hfl, _, hc, _⟩ := own_flights hL.2.2.1
  have hvs : ∀ f ∈ fs, ∃ A0 n0 c0, f.v = .slice A0 n0 c0 := fun f hf => by
    obtain ⟨_, A0, c0, h, _⟩ := own_bytes (hL.2.2.2.1 f hf)
    exact ⟨A0, _, c0, h⟩
  have n3 : w.cell? ⟨g, 3, none⟩ = some (.slice A fs.length c) := by rw [cell_of_row w g _ _ _ (0, 0) hL.1]; rfl
  have HB := Lib.hid (bsf_any A c fs k w hfl hvs hn hs)
  clear hL hfl hvs hs
  go_enter Try.func35, Try.ntmps35
  go_wp2_with (fail)
  refine HB.out.mono ?_
  rintro e w2 ⟨i, ok, rfl, hi, h1, h2, hb⟩
  have H1 := Lib.hid h1
  have H2 := Lib.hid h2
  have HB2 := Lib.hid hb
  clear h1 h2 hb
  cases ok with
  | true =>
    go_wp2
    go_ret
    exact ⟨i, rfl, .inr ⟨i, rfl, H1.out trivial⟩, HB2.out⟩
  | false =>
    go_wp2
    go_ret
    exact ⟨-1, rfl, .inl ⟨rfl, H2.out trivial⟩, HB2.out⟩
end Go.Proofs.Ytejlpdcoaejciaa
