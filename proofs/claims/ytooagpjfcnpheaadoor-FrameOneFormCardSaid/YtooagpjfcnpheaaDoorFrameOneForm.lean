/- FrameOneForm: bytes that Open takes are the frame of what it answers; the frame of any bytes that may be a payload is taken. -/
import Derived.Test.YtooagpjfcnpheaaDoorFrameOpen
import Derived.Test.YtooagpjfcnpheaaDoorLaw
import Derived.Deep.DeepCutAuto
namespace Go.Proofs.YtooagpjfcnpheaaDoor
open Go.RowKit

set_option maxHeartbeats 1000000 in
set_option maxRecDepth 100000 in
theorem oneForm_walk (A : Option Addr) (c : Nat) (b : List UInt8) (w : World) (hl : BytesAt w A b) (hA : A = none → c = 0) (hlc : b.length ≤ c) (hn : b.length ≤ 140737488351232) (ht : TableAt w) :
    Calls Tryd.prog 6 #[.slice A b.length c] w (Lawful w) := by
  have HC := Lib.hid (copied_any A c b w hl hA hlc hn)
  have HL := Lib.hid hl
  have HT := Lib.hid ht
  have HA := Lib.hid hA
  clear hl ht hA
  go_enter Tryd.func6, Tryd.ntmps6
  go_wp2_with (fail)
  refine HC.out.mono ?_
  rintro e w1 ⟨v1, rfl, ho1, hb1⟩
  obtain ⟨_, B1, d1, rfl, hB1, hB1n, hB1l, _⟩ := own_bytes ho1
  have HO := Lib.hid (open_any B1 d1 b w1 hB1 hB1l hn (HT.out.below hb1))
  have P1 := Lib.hid hb1
  clear ho1 hb1 hB1 hB1n
  go_wp2_with (fail)
  refine HO.out.mono ?_
  rintro e w2 ⟨v2, x, rfl, hb2, ho2⟩
  have P2 := Lib.hid (P1.out.trans (hb2.mono P1.out.size))
  have P12 := Lib.hid P1.out.size
  have HO2 := Lib.hid ho2
  clear hb2 ho2
  go_upto_if 18 with (fail)
  go_cut [2] (fun s wx => s = .bool false ∧ Below w.heap.size w wx)
  case first =>
    by_cases hx : x = 0
    · subst hx
      obtain ⟨hf, hp, ho⟩ := HO2.out rfl
      obtain ⟨_, B2, d2, rfl, hB2, hB2n, hB2l, _⟩ := own_bytes ho
      have HF := Lib.hid hf
      have HW := Lib.hid (wrapped_any B2 d2 (body b) w2 hB2 hB2n hB2l hp (HT.out.below P2.out))
      clear ho hf hB2 hB2n
      go_wp2_with (fail)
      refine HW.out.mono ?_
      rintro e w3 ⟨v3, rfl, ho3, hb3⟩
      have P3 := Lib.hid (P2.out.trans (hb3.mono P2.out.size))
      obtain ⟨_, B3, d3, rfl, hB3, _, _, _⟩ := own_bytes ho3
      have HE := Lib.hid (eq_any B3 A d3 c (frameB (body b)) b w3 hB3 (HL.out.below P3.out) (by rw [HF.out]; exact hn))
      clear ho3 hb3 hB3
      go_wp2_with (fail)
      refine HE.out.mono ?_
      rintro e w4 ⟨rfl, hb4⟩
      have P4 := Lib.hid (P3.out.trans (hb4.mono P3.out.size))
      rw [decide_eq_true HF.out]
      clear hb4
      go_wp2
      go_meet
      exact ⟨rfl, P4.out⟩
    · have hne : ((x : Int) == 0) = false := by rw [beq_eq_false_iff_ne]; omega
      have HX := Lib.hid hx
      clear hx
      go_wp2
      go_meet
      exact ⟨rfl, P2.out⟩
  case rest =>
    obtain ⟨rfl, hb⟩ := hcut
    have HB := Lib.hid hb
    by_cases hbig : 131072 < b.length
    · have hbi : (131072 : Int) < (b.length : Int) := by omega
      clear hb
      go_wp2
      go_ret
      exact ⟨rfl, HB.out⟩
    · have hbi : (b.length : Int) ≤ 131072 := by omega
      have HW := Lib.hid (wrapped_any A c b _ (HL.out.below hb) HA.out hlc (by omega) (HT.out.below hb))
      clear hb
      go_wp2_with (fail)
      refine HW.out.mono ?_
      rintro e w5 ⟨v5, rfl, ho5, hb5⟩
      have P5 := Lib.hid (HB.out.trans (hb5.mono HB.out.size))
      obtain ⟨_, B5, d5, rfl, hB5, hB5n, hB5l, _⟩ := own_bytes ho5
      have hz : ends (frameB b) = (12 + b.length, 0) := by have := ends_frame b [] (by omega); rwa [List.append_nil] at this
      have hbb : body (frameB b) = b := by have := body_frame b [] (by omega); rwa [List.append_nil] at this
      have HO := Lib.hid (open_good B5 d5 (frameB b) _ hB5 hB5l (by rw [frameB_length]; omega) (HT.out.below P5.out) (by rw [hz]) (by rw [hz, frameB_length]))
      have HBB := Lib.hid hbb
      clear ho5 hb5 hB5 hB5n hbb hz
      go_wp2_with (fail)
      refine HO.out.mono ?_
      rintro e w6 ⟨v6, rfl, ho6, hb6⟩
      rw [HBB.out] at ho6
      have P6 := Lib.hid (P5.out.trans (hb6.mono P5.out.size))
      obtain ⟨_, B6, d6, rfl, hB6, _, _, _⟩ := own_bytes ho6
      have HE := Lib.hid (eq_any B6 A d6 c b b _ hB6 (HL.out.below P6.out) hn)
      clear ho6 hb6 hB6
      go_wp2_with (fail)
      refine HE.out.mono ?_
      rintro e w7 ⟨rfl, hb7⟩
      have P7 := Lib.hid (P6.out.trans (hb7.mono P6.out.size))
      clear hb7
      go_wp2
      go_ret
      exact ⟨rfl, P7.out⟩
end Go.Proofs.YtooagpjfcnpheaaDoor
