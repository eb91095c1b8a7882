/- EqAll, by its contract. -/
import Derived.Test.YtooagpjfcnpheaaDoorByteses
import Derived.Test.YtooagpjfcnpheaaDoorFrameWrap
import Derived.Test.YtooagpjfcnpheaaDoorLater
namespace Go.Proofs.YtooagpjfcnpheaaDoor
open Go.RowKit

set_option maxHeartbeats 800000 in
set_option maxRecDepth 100000 in
theorem eqAll_any (A B : Option Addr) (c d : Nat) (l m : List (List UInt8)) (w : World) (hl : RowsAt w A l) (hm : RowsAt w B m) (hn : l.length ≤ 140737488351232) (hnl : ∀ x ∈ l, x.length ≤ 140737488351232) :
    Calls Tryd.prog 19 #[.slice A l.length c, .slice B m.length d] w fun e w' => e = .returned (.bool (decide (l = m))) ∧ Below w.heap.size w w' := by
  by_cases hlen : l.length = m.length
  · go_enter Tryd.func19, Tryd.ntmps19
    have HE := Lib.hid hlen
    have hle : ((l.length : Int) != (m.length : Int)) = false := by simp; omega
    clear hlen
    go_wp2
    go_loopw [5] (fun i wr => ∃ k : Nat, k ≤ l.length ∧ i = .int .i64 k ∧ l.take k = m.take k ∧ Below w.heap.size w wr) (fun i _ => l.length - (intOf i).toNat)
    case atStart => exact ⟨0, Nat.zero_le _, rfl, by simp, Below.refl _ _⟩
    case round =>
      obtain ⟨k, hk, rfl, ht, hb⟩ := hrel
      by_cases hlt : k < l.length
      · have hltm : k < m.length := by have := HE.out; omega
        obtain ⟨b, o, v, rfl, hb1, q0, r0⟩ := hl k hlt
        obtain ⟨b', o', v', rfl, hb2, q1, r1⟩ := hm k hltm
        obtain ⟨x, hx⟩ : ∃ x, x = l.getD k [] := ⟨_, rfl⟩
        obtain ⟨y, hy⟩ : ∃ y, y = m.getD k [] := ⟨_, rfl⟩
        rw [← hx] at r0
        rw [← hy] at r1
        have hx' : l[k] = x := by rw [hx]; simp [List.getD, hlt]
        have hy' : m[k] = y := by rw [hy]; simp [List.getD, hltm]
        have hxl : x.length ≤ 140737488351232 := by rw [← hx']; exact hnl _ (List.getElem_mem hlt)
        obtain ⟨A0, c0, rfl, s0, _⟩ := r0
        obtain ⟨A1, c1, rfl, s1, _⟩ := r1
        have e0 := (hb.cell (p := ⟨b, o + k, none⟩) hb1).trans q0
        have e1 := (hb.cell (p := ⟨b', o' + k, none⟩) hb2).trans q1
        have hsz := hb.size
        have g1 : b < wr.heap.size := by omega
        have g2 : b' < wr.heap.size := by omega
        have i0 : (0 : Int) ≤ (k : Int) := by omega
        have i1 : (k : Int) < (l.length : Int) := by omega
        have i2 : (k : Int) < (m.length : Int) := by omega
        have HC := Lib.hid (fun (w' : World) (hb' : Below wr.heap.size wr w') => eq_any A0 A1 c0 c1 x y w' ((s0.below hb).below hb') ((s1.below hb).below hb') hxl)
        have hL := @Later.cell wr
        have HX := Lib.hid hx'
        have HY := Lib.hid hy'
        have HT := Lib.hid ht
        have HB := Lib.hid hb
        clear hx hy hx' hy' q0 q1 hl hm ht hb s0 s1 hsz
        by_cases hxy : x = y
        · rw [decide_eq_true hxy] at HC
          have HXY := Lib.hid hxy
          clear hxy
          go_wp2
          refine wp_region_later (by kernel_rfl) (by kernel_rfl) ?_
          repeat (go_big_quiet_step ((go_at_call 23; exact Calls.later (HC.out _ (Subtype.property _ : Below _ _ _)))))
          refine wpQuiet_nil ?_
          rintro w' ⟨⟨w1, hb1⟩, rfl⟩
          have HB1 := Lib.hid (HB.out.trans (hb1.mono HB.out.size))
          clear hL hb1
          go_wp2
          go_roundw
          case rel =>
            refine ⟨k + 1, by omega, by go_num, ?_, HB1.out⟩
            rw [List.take_succ_eq_append_getElem hlt, List.take_succ_eq_append_getElem hltm, HT.out, HX.out, HY.out, HXY.out]
          case measure => simp [intOf]; omega
        · rw [decide_eq_false hxy] at HC
          have HXY := Lib.hid hxy
          clear hxy
          go_wp2
          refine wp_region_later (by kernel_rfl) (by kernel_rfl) ?_
          repeat (go_big_quiet_step ((go_at_call 23; exact Calls.later (HC.out _ (Subtype.property _ : Below _ _ _)))))
          refine wpQuiet_nil ?_
          rintro w' ⟨⟨w1, hb1⟩, rfl⟩
          have HB1 := Lib.hid (HB.out.trans (hb1.mono HB.out.size))
          clear hL hb1
          go_wp2
          go_ret
          refine ⟨congrArg (fun b => Ending.returned (.bool b)) (decide_eq_false ?_).symm, HB1.out⟩
          intro h
          apply HXY.out
          rw [← HX.out, ← HY.out]
          simp [h]
      · obtain rfl : k = l.length := by omega
        have HT := Lib.hid ht
        have HB := Lib.hid hb
        clear ht hb hl hm
        go_wp2
        go_ret
        refine ⟨congrArg (fun b => Ending.returned (.bool b)) (decide_eq_true ?_).symm, HB.out⟩
        have := HT.out
        rwa [List.take_length, HE.out, List.take_length] at this
  · go_enter Tryd.func19, Tryd.ntmps19
    have HE := Lib.hid hlen
    have hle : ((l.length : Int) != (m.length : Int)) = true := by rw [bne_iff_ne]; omega
    clear hlen hl hm
    go_wp2
    go_ret
    exact ⟨congrArg (fun b => Ending.returned (.bool b)) (decide_eq_false fun h => HE.out (by rw [h])).symm, Below.refl _ _⟩
end Go.Proofs.YtooagpjfcnpheaaDoor
