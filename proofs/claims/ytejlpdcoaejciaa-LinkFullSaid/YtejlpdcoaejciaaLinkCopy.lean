/- (*Link).Copy, Len, Next, by their contracts. -/
import Derived.Test.YtejlpdcoaejciaaLinkSpoil
namespace Go.Proofs.Ytejlpdcoaejciaa
open Go.RowKit

theorem len16_any {w : World} {base g : Nat} {nodes most next : Int} {v : Value} {fs : List FlightR} (h : LinkAt w base g nodes most next v fs) : Calls Try.prog 14 #[.pointer (some ⟨g, 0, none⟩)] w fun e w' => e = .returned (.int .i64 (fs.length : Int)) ∧ w = w' := by
  obtain ⟨A, c, rfl, _, _, _, _⟩ := own_flights h.2.2.1
  have n3 : w.cell? ⟨g, 3, none⟩ = some (.slice A fs.length c) := by rw [cell_of_row w g _ _ _ (0, 0) h.1]; rfl
  clear h
  go_enter Try.func14, Try.ntmps14
  go_wp2
  go_ret
  exact ⟨rfl, rfl⟩
theorem next16_any {w : World} {base g : Nat} {nodes most next : Int} {v : Value} {fs : List FlightR} (h : LinkAt w base g nodes most next v fs) : Calls Try.prog 15 #[.pointer (some ⟨g, 0, none⟩)] w fun e w' => e = .returned (.int .i64 next) ∧ w = w' := by
  have n2 : w.cell? ⟨g, 2, none⟩ = some (.int .i64 next) := by rw [cell_of_row w g _ _ _ (0, 0) h.1]; rfl
  clear h
  go_enter Try.func15, Try.ntmps15
  go_wp2
  go_ret
  exact ⟨rfl, rfl⟩

def CopyIs (base g : Nat) (nodes most next : Int) (v : Value) (fs : List FlightR) (k : Int) (w : World) (e : Ending) (w' : World) : Prop :=
  (e = .returned (.tuple #[.int .i64 0, .int .i64 160]) ∧ (∀ f ∈ fs, f.num ≠ k) ∧ Below w.heap.size w w') ∨
  ∃ (i : Nat) (h : i < fs.length), fs[i].num = k ∧
    ((most ≤ (fs.length : Int) ∧ e = .returned (.tuple #[.int .i64 0, .int .i64 161]) ∧ Below w.heap.size w w') ∨
     (¬ most ≤ (fs.length : Int) ∧ ∃ v' nv, e = .returned (.tuple #[.int .i64 next, .int .i64 0]) ∧ LinkAt w' base g nodes most (next + 1) v' (fs ++ [⟨next, fs[i].a, fs[i].b, fs[i].l, fs[i].sp, nv⟩]) ∧ (v'.ownBlock = v.ownBlock ∨ ∃ k, v'.ownBlock = some k ∧ w.heap.size ≤ k) ∧ Chg (fun j => j = g ∨ v.ownBlock = some j) w w'))

set_option maxHeartbeats 800000 in
set_option maxRecDepth 100000 in
theorem copy16_any (base g : Nat) (nodes most next : Int) (v : Value) (fs : List FlightR) (k : Int) (w : World) (hL : LinkAt w base g nodes most next v fs) (hb : base ≤ w.heap.size) (hn : fs.length ≤ 1048576) (hs : ∀ i j (hi : i < fs.length) (hj : j < fs.length), i < j → fs[i].num < fs[j].num)
    (hn0 : 0 ≤ next) (hn1 : next ≤ 4611686018427387904) (hlen : ∀ f ∈ fs, f.l.length ≤ 140737488351232) :
    Calls Try.prog 19 #[.pointer (some ⟨g, 0, none⟩), .int .i64 k] w (CopyIs base g nodes most next v fs k w) := by
  have HFI := Lib.hid (find16_any base g nodes most next v fs k w hL (by omega) hs)
  have HL := Lib.hid hL
  have HLEN := Lib.hid hlen
  clear hL hs hlen
  go_enter Try.func19, Try.ntmps19
  go_wp2_with (fail)
  refine HFI.out.mono ?_
  rintro e w2 ⟨r, rfl, hr, hb2⟩
  have HB2 := Lib.hid hb2
  have HL2 := Lib.hid (HL.out.kept hb2)
  have hs2 := hb2.size
  rcases hr with ⟨rfl, hno⟩ | ⟨i, rfl, hi, hnum⟩
  · have HNO := Lib.hid hno
    clear hno hb2
    go_wp2
    go_ret2
    exact .inl ⟨rfl, HNO.out, HB2.out⟩
  · obtain ⟨A, c, hv, hfl, _, hc, _⟩ := own_flights HL2.out.2.2.1
    obtain ⟨b, rfl, hbl, q0, q1, q2, q3, q4⟩ := hfl i hi
    have hof := HL2.out.2.2.2.1 _ (List.getElem_mem hi)
    have hfll := HLEN.out _ (List.getElem_mem hi)
    obtain ⟨F, hF⟩ : ∃ F, F = fs[i]'hi := ⟨_, rfl⟩
    rw [← hF] at q0 q1 q2 q3 q4 hof hnum hfll
    obtain ⟨_, Af, cf, hfv, hbf, _, hcf, _⟩ := own_bytes hof
    have n3 : w2.cell? ⟨g, 3, none⟩ = some (.slice (some ⟨b, 0, none⟩) fs.length c) := by rw [cell_of_row w2 g _ _ _ (0, 0) HL2.out.1, ← hv]; rfl
    have n1 : w2.cell? ⟨g, 1, none⟩ = some (.int .i64 most) := by rw [cell_of_row w2 g _ _ _ (0, 0) HL2.out.1]; rfl
    rw [hfv] at q3
    obtain ⟨n, hn'⟩ : ∃ n, n = fs.length := ⟨_, rfl⟩
    have hin : i < n := by omega
    have hini : (i : Int) < (n : Int) := by omega
    have i0 : (0 : Int) ≤ (i : Int) := by omega
    obtain ⟨fn, fa, fb, fl, fsp, fv⟩ := F
    rw [← hn'] at n3
    have HBG := Lib.hid (fun n (hd : Below w2.heap.size w2 n) => begin_any base g nodes most next v fs fn fa fb Af cf fl fsp n (HL2.out.kept hd) (hbf.below hd) hfll (by have := hd.size; omega) hn hn0 hn1)
    have HN := Lib.hid hn'
    have HF := Lib.hid hF
    have HNU := Lib.hid hnum
    clear hb2 hfl hn' hF hnum hfv hbf hv hof hfll
    by_cases hm : most ≤ (n : Int)
    · have hmd : decide (most ≤ (n : Int)) = true := decide_eq_true hm
      have HM := Lib.hid hm
      clear hm
      go_wp2
      go_quiet (fail)
      have HB3 := Lib.hid (Below.drewN' HB2.out nq)
      generalize w2.drewN nq = w3 at HB3 ⊢
      clear n3 n1 q0 q1 q2 q3 q4 hmd
      go_wp2
      go_ret2
      exact .inr ⟨i, hi, by rw [← HF.out]; exact HNU.out, .inl ⟨by rw [← HN.out]; exact HM.out, rfl, HB3.out⟩⟩
    · have hmd : decide (most ≤ (n : Int)) = false := decide_eq_false hm
      have HM := Lib.hid (Int.not_le.1 hm)
      clear hm
      go_wp2
      go_quiet (fail)
      have hd : Below w2.heap.size w2 (w2.drewN nq) := Below.drewN' (Below.refl _ _) nq
      have p3 : (w2.drewN nq).cell? ⟨g, 3, none⟩ = some (.slice (some ⟨b, 0, none⟩) n c) := n3
      have p0 : (w2.drewN nq).cell? ⟨b, i * 5, none⟩ = _ := q0
      have p1 : (w2.drewN nq).cell? ⟨b, i * 5 + 1, none⟩ = _ := q1
      have p2 : (w2.drewN nq).cell? ⟨b, i * 5 + 2, none⟩ = _ := q2
      have p4 : (w2.drewN nq).cell? ⟨b, i * 5 + 3, none⟩ = _ := q3
      have p5 : (w2.drewN nq).cell? ⟨b, i * 5 + 4, none⟩ = _ := q4
      have HBG3 := Lib.hid (HBG.out _ hd)
      have HD := Lib.hid hd
      generalize w2.drewN nq = w3 at HBG3 HD p0 p1 p2 p3 p4 p5 ⊢
      unfold flightV at HBG3
      clear n3 n1 q0 q1 q2 q3 q4 hmd hd
      go_wp2_with (fail)
      refine HBG3.out.mono ?_
      rintro e w4 ⟨v4, nv, rfl, hL4, hat4, hch4⟩
      have HL4 := Lib.hid hL4
      have HAT4 := Lib.hid hat4
      have HCH4 := Lib.hid hch4
      clear hL4 hat4 hch4 p0 p1 p2 p3 p4 p5
      go_wp2
      go_ret2
      refine .inr ⟨i, hi, by rw [← HF.out]; exact HNU.out, .inr ⟨by rw [← HN.out]; exact Int.not_le.2 HM.out, v4, nv, rfl, by rw [← HF.out]; exact HL4.out, ?_, ?_⟩⟩
      · rcases HAT4.out with h | ⟨j, h, h2⟩
        · exact .inl h
        · exact .inr ⟨j, h, by have := HD.out.size; omega⟩
      · exact (Chg.ofBelow (HB2.out.trans (HD.out.mono HB2.out.size))).trans' HCH4.out (fun j _ h => h)
end Go.Proofs.Ytejlpdcoaejciaa
