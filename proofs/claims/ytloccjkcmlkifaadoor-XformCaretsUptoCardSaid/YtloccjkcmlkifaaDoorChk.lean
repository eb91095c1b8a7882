/- utext.Check, by its contract. -/
import Derived.Test.YtloccjkcmlkifaaDoorChkWalk
namespace Go.Proofs.YtloccjkcmlkifaaDoor
open Go.RowKit Go.Proofs.YtloccjkcmlkifaaDoorW.PrintWords

theorem begins_spec (s : ByteArray) (pos : Nat) (c : Int) (h : pos ≤ s.size) : PBg.utext_begins.f s (pos : Int) c = some (okSeq s pos c) := by
  unfold PBg.utext_begins.f okSeq
  by_cases hc : c = 65533
  · rw [if_pos hc, if_pos hc, if_pos (by omega), if_pos (by omega)]
    unfold PBg.strings_HasPrefix.f PBg.stringslite_HasPrefix.f
    have h3 : ((⟨#[239, 191, 189]⟩ : ByteArray).size : Int) = 3 := rfl
    rw [h3, Int.toNat_natCast]
    by_cases hs : 3 ≤ (s.extract pos s.size).size
    · rw [if_pos hs, if_pos (by omega), if_pos (by omega), if_pos (by omega)]
      rfl
    · rw [if_neg hs, if_neg (by omega)]
      rfl
  · rw [if_neg hc, if_neg hc]

theorem run_next_at {P : Program} (W : World) (g : Nat) (s : ByteArray) (pos : Nat) (ty : TypeId) (hg : W.heap[g]? = some (.stringIter s pos)) (h : pos < s.size) :
    (Instr.next (.pointer (some ⟨g, 0, none⟩)) true ty).run P W = .ok (.tuple #[.bool true, .int .i64 pos, .int .i32 (Utf8.decode s pos).1]) { W with heap := W.heap.setIfInBounds g (.stringIter s (pos + (Utf8.decode s pos).2)) } := by
  simp only [Instr.next, getObj, setObj, Sem.run_bind, Sem.run, hg, Result.andThen, h, if_true]
  simp [goInt]
theorem run_next_over {P : Program} (W : World) (g : Nat) (s : ByteArray) (pos : Nat) (ty : TypeId) (hg : W.heap[g]? = some (.stringIter s pos)) (h : ¬ pos < s.size) :
    (Instr.next (.pointer (some ⟨g, 0, none⟩)) true ty).run P W = .ok (.tuple #[.bool false]) W := by
  simp [Instr.next, getObj, Sem.run, hg, h]
theorem iter_set {W : World} {g : Nat} {o o' : Obj} (hg : W.heap[g]? = some o) : ({ W with heap := W.heap.setIfInBounds g o' } : World).heap[g]? = some o' ∧ ∀ k, k ≠ g → ({ W with heap := W.heap.setIfInBounds g o' } : World).heap[k]? = W.heap[k]? := by
  have := (Array.getElem?_eq_some_iff.1 hg).1
  exact ⟨by simp [this], fun k hk => by simp [Ne.symm hk]⟩
theorem below_iter {B : Nat} {w W : World} {g : Nat} {o : Obj} (h : Below B w W) (hB : B ≤ g) : Below B w { W with heap := W.heap.setIfInBounds g o } :=
  ⟨h.os, h.tape, h.output, by simpa using h.size, fun k hk => by
    have : g ≠ k := by omega
    simp only [Array.getElem?_setIfInBounds, this, if_false]
    exact h.block k hk⟩

theorem below_dn {B : Nat} {w W : World} (h : Below B w W) (n : Nat) : Below B w (W.drewN n) := h.trans ⟨rfl, rfl, rfl, Nat.le_refl _, fun _ _ => rfl⟩
def ChkIs (s : ByteArray) (w : World) (e : Ending) (w' : World) : Prop := ∃ r1 r2 r3, chkFrom s s.size 0 0 = (r1, r2, r3) ∧ e = .returned (.tuple #[.int .i64 r1, .int .i64 r2, .int .i64 r3]) ∧ Below w.heap.size w w'

set_option maxHeartbeats 1600000 in
set_option maxRecDepth 100000 in
theorem check_any (s : ByteArray) (w : World) (hG : GW w) : Calls Tryd.prog 70 #[.string s] w (ChkIs s w) := by
  have HG := Lib.hid hG
  clear hG
  go_enter Tryd.func70, Tryd.ntmps70
  go_wp2
  go_loopw [5] (fun n wr => ∃ (pos f : Nat) (m : Int), n = .int .i64 m ∧ chkFrom s f pos m = chkFrom s s.size 0 0 ∧ s.size ≤ pos + f ∧ wr.heap[w.heap.size]? = some (.stringIter s pos) ∧ Below w.heap.size w wr) (fun _ wr => s.size - wr.iterPos w.heap.size)
  case atStart => exact ⟨0, s.size, 0, rfl, rfl, by omega, World.iter_heap _ _ _, (Below.refl _ _).alloc (Nat.le_refl _) _⟩
  case round =>
    obtain ⟨pos, f, m, rfl, hc, hf, hg, hb⟩ := hrel
    have hmeas : wr.iterPos w.heap.size = pos := by simp [World.iterPos, hg]
    have HM := Lib.hid hmeas
    have HC := Lib.hid hc
    have HB := Lib.hid hb
    have HGW := Lib.hid (HG.out.below hb)
    clear hc hb hmeas
    by_cases hp : pos < s.size
    · have hnx : ∀ ty, (Instr.next (.pointer (some ⟨w.heap.size, 0, none⟩)) true ty).run Tryd.prog wr = _ := fun ty => run_next_at wr w.heap.size s pos ty hg hp
      obtain ⟨W2, hW2⟩ : ∃ W2 : World, W2 = { wr with heap := wr.heap.setIfInBounds w.heap.size (.stringIter s (pos + (Utf8.decode s pos).2)) } := ⟨_, rfl⟩
      rw [← hW2] at hnx
      have hi2 := (iter_set (o' := .stringIter s (pos + (Utf8.decode s pos).2)) hg).1
      have hb2 := below_iter (o := .stringIter s (pos + (Utf8.decode s pos).2)) HB.out (Nat.le_refl _)
      rw [← hW2] at hi2 hb2
      have HI2 := Lib.hid hi2
      have HB2 := Lib.hid hb2
      have HG2 := Lib.hid (HG.out.below hb2)
      have hwd := width_pos s pos hp
      obtain ⟨F, rfl⟩ : ∃ F, f = F + 1 := ⟨f - 1, by omega⟩
      have hst : chkFrom s (F + 1) pos m = if okSeq s pos (Utf8.decode s pos).1 then (if okRune (Utf8.decode s pos).1 then chkFrom s F (pos + (Utf8.decode s pos).2) (wrap64 (m + 1)) else (0, pos, 11)) else (0, pos, 10) := by rw [chkFrom, if_pos hp]
      obtain ⟨c, hcc⟩ : ∃ c : Nat, c = (Utf8.decode s pos).1 := ⟨_, rfl⟩
      obtain ⟨n, hnn⟩ : ∃ n : Nat, n = (Utf8.decode s pos).2 := ⟨_, rfl⟩
      rw [← hcc, ← hnn] at hst
      rw [← hcc] at hnx
      rw [← hnn] at hwd HI2
      have HST := Lib.hid hst
      have HSQ := Lib.hid (begins_spec s pos (c : Int) (by omega))
      have HLT := Lib.hid (fun W (h : GW W) => letIn_any (c : Int) W h)
      clear hst hcc hW2 hi2 hb2 hg hnn
      obtain ⟨b1, hb1⟩ : ∃ b, b = okSeq s pos (c : Int) := ⟨_, rfl⟩
      obtain ⟨b2, hb2⟩ : ∃ b, b = okRune (c : Int) := ⟨_, rfl⟩
      rw [← hb1] at HSQ HST
      rw [← hb2] at HST
      have HB1 := Lib.hid hb1
      have HBB2 := Lib.hid hb2
      clear hb1 hb2
      cases b1 with
      | false =>
        go_wp2_with (go_at_call 88; refine (PBg.utext_begins.calls _ _ _ false _ HSQ.out).mono ?_; rintro e w' ⟨rfl, ⟨nd, rfl⟩⟩)
        refine bodyPost_ret (v := .tuple #[.int .i64 0, .int .i64 (pos : Int), .int .i64 10]) (by simp [results, Tryd.results70, go_sem]) rfl ⟨0, pos, 10, by rw [← HC.out, HST.out]; rfl, rfl, below_dn HB2.out _⟩
      | true =>
        cases b2 with
        | false =>
          go_wp2_with (first | (go_at_call 88; refine (PBg.utext_begins.calls _ _ _ true _ HSQ.out).mono ?_; rintro e w' ⟨rfl, ⟨nd, rfl⟩⟩) | (go_at_call 89; refine (HLT.out _ (by first | exact HG2.out | exact GW.drewN HG2.out _)).mono ?_; rintro e w3 ⟨rfl, hb3⟩; have HB3 := Lib.hid hb3; clear hb3; rw [← HBB2.out]))
          refine bodyPost_ret (v := .tuple #[.int .i64 0, .int .i64 (pos : Int), .int .i64 11]) (by simp [results, Tryd.results70, go_sem]) rfl ⟨0, pos, 11, by rw [← HC.out, HST.out]; rfl, rfl, (below_dn HB2.out _).trans (HB3.out.mono HB2.out.size)⟩
        | true =>
          go_wp2_with (first | (go_at_call 88; refine (PBg.utext_begins.calls _ _ _ true _ HSQ.out).mono ?_; rintro e w' ⟨rfl, ⟨nd, rfl⟩⟩) | (go_at_call 89; refine (HLT.out _ (by first | exact HG2.out | exact GW.drewN HG2.out _)).mono ?_; rintro e w3 ⟨rfl, hb3⟩; have HB3 := Lib.hid hb3; clear hb3; rw [← HBB2.out]))
          have h3 : w3.heap[w.heap.size]? = some (.stringIter s (pos + n)) := (HB3.out.block _ (Array.getElem?_eq_some_iff.1 HI2.out).1).trans HI2.out
          have H3 := Lib.hid h3
          clear h3
          go_roundw
          case rel => exact ⟨pos + n, F, _, rfl, by rw [← HC.out, HST.out]; rfl, by omega, H3.out, (below_dn HB2.out _).trans (HB3.out.mono HB2.out.size)⟩
          case measure =>
            have : w3.iterPos w.heap.size = pos + n := by simp [World.iterPos, H3.out]
            rw [this, HM.out]
            omega
    · have hnx : ∀ ty, (Instr.next (.pointer (some ⟨w.heap.size, 0, none⟩)) true ty).run Tryd.prog wr = _ := fun ty => run_next_over wr w.heap.size s pos ty hg hp
      go_wp2
      refine bodyPost_ret (v := .tuple #[.int .i64 m, .int .i64 0, .int .i64 0]) (by simp [results, Tryd.results70, go_sem]) rfl ⟨m, 0, 0, by rw [← HC.out, chk_end s f pos m hp], rfl, HB.out⟩

theorem utext_Check.calls (a0 : ByteArray) (r1 : Int) (r2 : Int) (r3 : Int) (w : World) (hG : GW w) (h : utext_Check.f a0 = some (r1, r2, r3)) :
    Calls Tryd.prog 70 #[.string a0] w fun e w' => e = .returned (.tuple #[.int .i64 r1, .int .i64 r2, .int .i64 r3]) ∧ Below w.heap.size w w' := by
  refine (check_any a0 w hG).mono ?_
  rintro e w' ⟨q1, q2, q3, hq, rfl, hb⟩
  unfold utext_Check.f at h
  rw [hq] at h
  cases h
  exact ⟨rfl, hb⟩
end Go.Proofs.YtloccjkcmlkifaaDoor

