/- FrameGivesBack: a frame opens to its payload, alone and with bytes behind it; cut it is too short; with a bit turned it is refused; a payload that is too great has none. -/
import Derived.Test.YtooagpjfcnpheaaDoorFrameOpen
import Derived.Test.YtooagpjfcnpheaaDoorFlipLaw
import Derived.Test.YtooagpjfcnpheaaDoorAppWide
import Derived.Test.YtooagpjfcnpheaaDoorLaw
import Derived.Deep.DeepCutAuto
namespace Go.Proofs.YtooagpjfcnpheaaDoor
open Go.RowKit

theorem own_after {w w' : World} {base : Nat} {e : TypeId} {size : Nat} {v : Value} {n : Nat} {xs : List Value} (h : w.ownsRow base e size v n xs) (hb : Below w.heap.size w w') : w'.ownsRow base e size v n xs := by
  refine ⟨h.1, ?_⟩
  rcases h.2 with h0 | ⟨g, cap, cur, rfl, hbg, hg, r⟩
  · exact .inl h0
  · exact .inr ⟨g, cap, cur, rfl, hbg, (hb.block g (Array.getElem?_eq_some_iff.1 hg).1).trans hg, r⟩

set_option maxHeartbeats 400000 in
set_option maxRecDepth 100000 in
theorem givesBack_big (A1 A2 : Option Addr) (c1 c2 : Nat) (p t : List UInt8) (cut bit : Int) (w : World) (hp : BytesAt w A1 p) (hA1 : A1 = none → c1 = 0) (hc1 : p.length ≤ c1) (hn1 : p.length ≤ 140737488351232) (hbig : 131072 < p.length) :
    Calls Tryd.prog 5 #[.slice A1 p.length c1, .int .i64 cut, .int .i64 bit, .slice A2 t.length c2] w (Lawful w) := by
  have HC := Lib.hid (copied_any A1 c1 p w hp hA1 hc1 hn1)
  have hbi : (131072 : Int) < (p.length : Int) := by omega
  clear hp hA1
  go_enter Tryd.func5, Tryd.ntmps5
  go_wp2_with (fail)
  refine HC.out.mono ?_
  rintro e w1 ⟨v1, rfl, ho1, hb1⟩
  obtain ⟨_, B1, d1, rfl, _, _, _, _⟩ := own_bytes ho1
  have HB := Lib.hid hb1
  clear ho1 hb1
  go_wp2_with (fail)
  refine (wrap_big B1 d1 p.length _ hbig).mono ?_
  rintro e w2 ⟨rfl, rfl⟩
  go_wp2
  go_ret
  exact ⟨rfl, HB.out⟩

set_option maxHeartbeats 2000000 in
set_option maxRecDepth 100000 in
theorem givesBack_small (A1 A2 : Option Addr) (c1 c2 : Nat) (p t : List UInt8) (cut bit : Int) (w : World) (hp : BytesAt w A1 p) (ht : BytesAt w A2 t) (hA1 : A1 = none → c1 = 0) (hA2 : A2 = none → c2 = 0) (hc1 : p.length ≤ c1) (hc2 : t.length ≤ c2)
    (hn2 : t.length ≤ 140737488351232) (hT : TableAt w) (hsm : p.length ≤ 131072) :
    Calls Tryd.prog 5 #[.slice A1 p.length c1, .int .i64 cut, .int .i64 bit, .slice A2 t.length c2] w (Lawful w) := by
  have hw := wrapped_any A1 c1 p w hp hA1 hc1 hsm hT
  unfold Wrapped at hw
  have HP := Lib.hid hp
  have HT2 := Lib.hid ht
  have HT := Lib.hid hT
  have HA2 := Lib.hid hA2
  have hbi : (p.length : Int) ≤ 131072 := by omega
  have HI := Lib.hid u8info
  obtain ⟨f, hf⟩ : ∃ f, f = frameB p := ⟨_, rfl⟩
  have hfl : f.length = 12 + p.length := by rw [hf, frameB_length]
  have E0 : ∀ r, ends (f ++ r) = (12 + p.length, 0) := fun r => by rw [hf]; exact ends_frame p r hsm
  have Y0 : ∀ r, body (f ++ r) = p := fun r => by rw [hf]; exact body_frame p r hsm
  have E1 : ∀ k, k < 12 + p.length → ends (f.take k) = (0, 90) := fun k hk => by rw [hf]; exact ends_cut p k hsm hk
  have E2 : ∀ r i, i < 8 * (12 + p.length) → ends (flip f i ++ r) = (0, if i < 64 then 91 else 93) := fun r i hi => by rw [hf]; exact ends_flip p r hsm i hi
  have E00 : ends f = (12 + p.length, 0) := by have := E0 []; rwa [List.append_nil] at this
  have Y00 : body f = p := by have := Y0 []; rwa [List.append_nil] at this
  have hf1 : 12 ≤ f.length := by omega
  have hf2 : f.length ≤ 131084 := by omega
  have hne : ((12 + (p.length : Int)) != (f.length : Int)) = false := by rw [bne_eq_false_iff_eq]; omega
  obtain ⟨l, hl⟩ : ∃ l, l = f ++ t := ⟨_, rfl⟩
  have hll : l.length = 12 + p.length + t.length := by rw [hl, List.length_append, hfl]
  have hl62 : l.length ≤ 4611686018427387904 := by omega
  have el : ends l = (12 + p.length, 0) := by rw [hl]; exact E0 t
  have yl : body l = p := by rw [hl]; exact Y0 t
  have el1 : ((ends l).1 : Int) = 12 + (p.length : Int) := by rw [el]; omega
  obtain ⟨K, hK⟩ : ∃ K : Nat, (K : Int) = cut % (f.length : Int) := ⟨(cut % (f.length : Int)).toNat, by have := Int.emod_nonneg cut (show (f.length : Int) ≠ 0 by omega); omega⟩
  have hKf : K < f.length := by have := Int.emod_lt_of_pos cut (show (0 : Int) < (f.length : Int) by omega); omega
  obtain ⟨u, hu⟩ : ∃ u, u = f.take K := ⟨_, rfl⟩
  have hul : K = u.length := by rw [hu, List.length_take]; omega
  have eu : ends u = (0, 90) := by rw [hu]; exact E1 K (by omega)
  have eu2 : ((ends u).2 : Int) = 90 := by rw [eu]; rfl
  obtain ⟨I, hI⟩ : ∃ I : Nat, (I : Int) = bit % (8 * (f.length : Int)) := ⟨(bit % (8 * (f.length : Int))).toNat, by have := Int.emod_nonneg bit (show 8 * (f.length : Int) ≠ 0 by omega); omega⟩
  have hIf : I < 8 * (12 + p.length) := by have := Int.emod_lt_of_pos bit (show (0 : Int) < 8 * (f.length : Int) by omega); omega
  obtain ⟨E, hE⟩ : ∃ E : Nat, E = if I < 64 then 91 else 93 := ⟨_, rfl⟩
  have hE0 : E ≠ 0 := by rw [hE]; split <;> omega
  obtain ⟨z, hz⟩ : ∃ z, z = flip f I := ⟨_, rfl⟩
  have hzl : z.length = f.length := by rw [hz, flip_length]
  have ez : ends z = (0, E) := by have := E2 [] I hIf; rw [List.append_nil] at this; rw [hz, hE]; exact this
  have ez2 : ((ends z).2 : Int) = (E : Int) := by rw [ez]
  obtain ⟨s, hs⟩ : ∃ s, s = z ++ t := ⟨_, rfl⟩
  have hsl : s.length = z.length + t.length := by rw [hs, List.length_append]
  have es : ends s = (0, E) := by rw [hs, hz, hE]; exact E2 t I hIf
  have es2 : ((ends s).2 : Int) = (E : Int) := by rw [es]
  have HLa := Lib.hid hl
  have HLL := Lib.hid hll
  have HEL := Lib.hid el
  have HYL := Lib.hid yl
  have HEL1 := Lib.hid el1
  have HK := Lib.hid hK
  have HU := Lib.hid hu
  have HUL := Lib.hid hul
  have HEU := Lib.hid eu
  have HEU2 := Lib.hid eu2
  have HII := Lib.hid hI
  have HEE := Lib.hid hE
  have HZ := Lib.hid hz
  have HZL := Lib.hid hzl
  have HEZ := Lib.hid ez
  have HEZ2 := Lib.hid ez2
  have HS := Lib.hid hs
  have HSL := Lib.hid hsl
  have HES := Lib.hid es
  have HES2 := Lib.hid es2
  have HE0 := Lib.hid hE0
  have hIi : (0 : Int) ≤ 8 * (f.length : Int) := by omega
  clear hl hll el yl el1 hK hu hul eu eu2 hI hE hz hzl ez ez2 hs hsl es es2 hE0
  have H0 := Lib.hid E0
  have G0 := Lib.hid Y0
  have H1 := Lib.hid E1
  have H2 := Lib.hid E2
  have H00 := Lib.hid E00
  have G00 := Lib.hid Y00
  have HF := Lib.hid hfl
  rw [← hf] at hw
  have HW := Lib.hid hw
  clear hw hp hA1 ht hT hA2 hf hfl E0 Y0 E1 E2 E00 Y00
  go_enter Tryd.func5, Tryd.ntmps5
  go_wp2_with (fail)
  refine HW.out.mono ?_
  rintro e w3 ⟨v3, rfl, ho3, hb3⟩
  obtain ⟨_, B, d, rfl, hB, hBn, hBd, hd63⟩ := own_bytes ho3
  have P0 := Lib.hid (Below.refl w3.heap.size w3)
  have QF := Lib.hid hB
  have QP := Lib.hid (HP.out.below hb3)
  have QT := Lib.hid (HT2.out.below hb3)
  have TT := Lib.hid (HT.out.below hb3)
  have HB3 := Lib.hid hb3
  have HBn := Lib.hid hBn
  clear ho3 hb3 hB hBn HP HT2 HT
  -- alone
  go_wp2_with (fail)
  refine (copied_any B d f _ (QF.out.below P0.out) HBn.out hBd (by omega)).mono ?_
  rintro e w4 ⟨v4, rfl, ho4, hb4⟩
  obtain ⟨_, X4, d4, rfl, hX4, _, hd4, _⟩ := own_bytes ho4
  have P4 := Lib.hid (P0.out.trans (hb4.mono P0.out.size))
  have HO := Lib.hid (open_good X4 d4 f w4 hX4 hd4 (by omega) (TT.out.below P4.out) (by rw [H00.out]) (by rw [H00.out, HF.out]))
  clear ho4 hb4 hX4
  go_wp2_with (fail)
  refine HO.out.mono ?_
  rintro e w5 ⟨v5, rfl, ho5, hb5⟩
  rw [G00.out] at ho5
  obtain ⟨_, X5, d5, rfl, hX5, _, _, _⟩ := own_bytes ho5
  have P5 := Lib.hid (P4.out.trans (hb5.mono P4.out.size))
  have HE := Lib.hid (eq_any X5 A1 d5 c1 p p w5 hX5 (QP.out.below P5.out) (by omega))
  clear ho5 hb5 hX5
  go_wp2_with (fail)
  refine HE.out.mono ?_
  rintro e w6 ⟨rfl, hb6⟩
  have P6 := Lib.hid (P5.out.trans (hb6.mono P5.out.size))
  clear hb6
  -- with bytes behind it: First
  go_wp2_with (fail)
  refine (copied_any B d f _ (QF.out.below P6.out) HBn.out hBd (by omega)).mono ?_
  rintro e w7 ⟨v7, rfl, ho7, hb7⟩
  have P7 := Lib.hid (P6.out.trans (hb7.mono P6.out.size))
  have P67 := Lib.hid hb7.size
  have HO7 := Lib.hid ho7
  clear ho7 hb7
  go_wp2_with (at_builtin; refine Hid.out ?_)
  refine Lib.hid ?_
  refine wpList_append_wide _ rfl _ _ 22 rfl w6.heap.size 5 _ 1 1 Tryd.underlying22 HI.out rfl (by omega) _ f.length (vals f) rfl HO7.out A2 t.length c2 (vals t) rfl (by rw [vals_length]; omega) (fun h => by have := HA2.out h; omega) (bytes_news (QT.out.below P7.out)) (vals_one t) (by unfold maxLen; omega) (by omega) P67.out ?_
  intro v8 w8 ho8 hg8
  rw [← vals_append, ← HLa.out] at ho8
  have P8 := Lib.hid (P7.out.grown hg8 P7.out.size (fun k hk => Nat.le_trans P6.out.size (own_base' HO7.out k hk)))
  obtain ⟨_, X8, d8, rfl, hX8, _, hd8, _⟩ := own_bytes ho8
  have HF8 := Lib.hid (first_good X8 d8 l w8 hX8 hd8 hl62 (TT.out.below P8.out) (by rw [HEL.out]))
  clear ho8 hg8 hX8
  go_wp2_with (fail)
  refine HF8.out.mono ?_
  rintro e w9 ⟨v9, rfl, ho9, hb9⟩
  rw [HYL.out] at ho9
  rw [HEL1.out]
  obtain ⟨_, X9, d9, rfl, hX9, _, _, _⟩ := own_bytes ho9
  have P9 := Lib.hid (P8.out.trans (hb9.mono P8.out.size))
  have HE9 := Lib.hid (eq_any X9 A1 d9 c1 p p w9 hX9 (QP.out.below P9.out) (by omega))
  clear ho9 hb9 hX9
  go_wp2_with (fail)
  refine HE9.out.mono ?_
  rintro e w10 ⟨rfl, hb10⟩
  have P10 := Lib.hid (P9.out.trans (hb10.mono P9.out.size))
  clear hb10
  -- with bytes behind it: Open
  go_wp2_with (fail)
  refine (copied_any B d f _ (QF.out.below P10.out) HBn.out hBd (by omega)).mono ?_
  rintro e w11 ⟨v11, rfl, ho11, hb11⟩
  have P11 := Lib.hid (P10.out.trans (hb11.mono P10.out.size))
  have P1011 := Lib.hid hb11.size
  have HO11 := Lib.hid ho11
  clear ho11 hb11
  go_wp2_with (at_builtin; refine Hid.out ?_)
  refine Lib.hid ?_
  refine wpList_append_wide _ rfl _ _ 22 rfl w10.heap.size 5 _ 1 1 Tryd.underlying22 HI.out rfl (by omega) _ f.length (vals f) rfl HO11.out A2 t.length c2 (vals t) rfl (by rw [vals_length]; omega) (fun h => by have := HA2.out h; omega) (bytes_news (QT.out.below P11.out)) (vals_one t) (by unfold maxLen; omega) (by omega) P1011.out ?_
  intro v12 w12 ho12 hg12
  rw [← vals_append, ← HLa.out] at ho12
  have P12 := Lib.hid (P11.out.grown hg12 P11.out.size (fun k hk => Nat.le_trans P10.out.size (own_base' HO11.out k hk)))
  obtain ⟨_, X12, d12, rfl, hX12, _, hd12, _⟩ := own_bytes ho12
  have HO13 : Calls Tryd.prog 22 #[.slice X12 l.length d12] w12 fun e w' => ∃ (v : Value) (x : Nat), e = .returned (.tuple #[v, .int .i64 (x : Int)]) ∧ (t = [] ∧ x = 0 ∨ t ≠ [] ∧ x = 94) ∧ Below w12.heap.size w12 w' := by
    by_cases h : t = []
    · refine (open_good X12 d12 l w12 hX12 hd12 hl62 (TT.out.below P12.out) (by rw [HEL.out]) (by rw [HEL.out, HLL.out, h]; rfl)).mono ?_
      rintro e w' ⟨v, rfl, _, hb⟩
      exact ⟨v, 0, rfl, .inl ⟨h, rfl⟩, hb⟩
    · refine (open_tail X12 d12 l w12 hX12 hd12 hl62 (TT.out.below P12.out) (by rw [HEL.out]) (by rw [HEL.out, HLL.out]; have := List.length_pos_iff.2 h; omega)).mono ?_
      rintro e w' ⟨rfl, hb⟩
      exact ⟨_, 94, rfl, .inr ⟨h, rfl⟩, hb⟩
  have HO13 := Lib.hid HO13
  clear ho12 hg12 hX12
  go_wp2_with (fail)
  refine HO13.out.mono ?_
  rintro e w13 ⟨v13, x, rfl, hx, hb13⟩
  have P13 := Lib.hid (P12.out.trans (hb13.mono P12.out.size))
  have HX := Lib.hid hx
  clear hx hb13
  go_upto_region 14 with (fail)
  go_cut [103] (fun s wx => s = .bool false ∧ wx = w13)
  case first =>
    rcases HX.out with ⟨h, h'⟩ | ⟨h, h'⟩
    · subst h h'
      go_wp2
      go_meet
      exact ⟨rfl, rfl⟩
    · subst h'
      have h1 : (0 : Int) < (t.length : Int) := by have := List.length_pos_iff.2 h; omega
      go_wp2
      go_meet
      exact ⟨rfl, rfl⟩
  case rest =>
    obtain ⟨rfl, rfl⟩ := hcut
    -- cut
    go_wp2_with (fail)
    refine (rest_any cut (f.length : Int) _ (by omega) (by omega)).mono ?_
    rintro e w14 ⟨rfl, rfl⟩
    rw [← HK.out]
    go_wp2_with (fail)
    refine (copied_n B K d u _ (by rw [HU.out]; exact (QF.out.below P13.out).take K) HBn.out (by rw [← HUL.out]; omega) (by rw [← HUL.out]; omega) HUL.out).mono ?_
    rintro e w15 ⟨v15, rfl, ho15, hb15⟩
    obtain ⟨_, X15, d15, rfl, hX15, _, hd15, _⟩ := own_bytes ho15
    have P15 := Lib.hid (P13.out.trans (hb15.mono P13.out.size))
    have HF15 := Lib.hid (first_bad X15 d15 u w15 hX15 hd15 (by rw [← HUL.out]; omega) (TT.out.below P15.out) (by rw [HEU.out]; decide))
    clear ho15 hb15 hX15
    go_wp2_with (fail)
    refine HF15.out.mono ?_
    rintro e w16 ⟨rfl, hb16⟩
    rw [HEU2.out]
    have P16 := Lib.hid (P15.out.trans (hb16.mono P15.out.size))
    clear hb16
    go_wp2_with (fail)
    refine (copied_n B K d u _ (by rw [HU.out]; exact (QF.out.below P16.out).take K) HBn.out (by rw [← HUL.out]; omega) (by rw [← HUL.out]; omega) HUL.out).mono ?_
    rintro e w17 ⟨v17, rfl, ho17, hb17⟩
    obtain ⟨_, X17, d17, rfl, hX17, _, hd17, _⟩ := own_bytes ho17
    have P17 := Lib.hid (P16.out.trans (hb17.mono P16.out.size))
    have HF17 := Lib.hid (open_bad X17 d17 u w17 hX17 hd17 (by rw [← HUL.out]; omega) (TT.out.below P17.out) (by rw [HEU.out]; decide))
    clear ho17 hb17 hX17
    go_wp2_with (fail)
    refine HF17.out.mono ?_
    rintro e w18 ⟨rfl, hb18⟩
    rw [HEU2.out]
    have P18 := Lib.hid (P17.out.trans (hb18.mono P17.out.size))
    clear hb18
    -- a bit turned
    go_wp2_with (fail)
    refine (rest_any bit (8 * (f.length : Int)) _ (by omega) (by omega)).mono ?_
    rintro e w19 ⟨rfl, rfl⟩
    rw [← HII.out]
    go_upto_if 141 with (fail)
    go_cut [20] (fun s wx => s = .int .i64 (E : Int) ∧ wx = w18)
    case first =>
      by_cases h : I < 64
      · have hi : (I : Int) < 64 := by omega
        have he := HEE.out
        rw [if_pos h] at he
        have HHE := Lib.hid he
        clear h he
        go_wp2
        go_meet
        exact ⟨by rw [HHE.out]; rfl, rfl⟩
      · have hi : (64 : Int) ≤ (I : Int) := by omega
        have he := HEE.out
        rw [if_neg h] at he
        have HHE := Lib.hid he
        clear h he
        go_wp2
        go_meet
        exact ⟨by rw [HHE.out]; rfl, rfl⟩
    case rest =>
      obtain ⟨rfl, rfl⟩ := hcut
      go_wp2_with (fail)
      refine (flipped_any B d f (I : Int) _ (QF.out.below P18.out) HBn.out hBd (by omega) (by omega) (by have := HF.out; omega)).mono ?_
      rintro e w20 ⟨v20, rfl, ho20, hb20⟩
      rw [Int.toNat_natCast, ← HZ.out] at ho20
      have P20 := Lib.hid (P18.out.trans (hb20.mono P18.out.size))
      obtain ⟨_, X20, d20, rfl, hX20, hX20n, hd20, _⟩ := own_bytes ho20
      have O20 := Lib.hid ho20
      have Q20 := Lib.hid hX20
      have N20 := Lib.hid hX20n
      have P1820 := Lib.hid hb20.size
      clear ho20 hb20 hX20 hX20n
      go_wp2_with (fail)
      refine (copied_any X20 d20 z _ Q20.out N20.out hd20 (by rw [HZL.out]; omega)).mono ?_
      rintro e w21 ⟨v21, rfl, ho21, hb21⟩
      obtain ⟨_, X21, d21, rfl, hX21, _, hd21, _⟩ := own_bytes ho21
      have P2021 := Lib.hid hb21
      have P21 := Lib.hid (P20.out.trans (hb21.mono P20.out.size))
      have HF21 := Lib.hid (open_bad X21 d21 z w21 hX21 hd21 (by rw [HZL.out]; omega) (TT.out.below P21.out) (by rw [HEZ.out]; exact HE0.out))
      clear ho21 hb21 hX21
      go_wp2_with (fail)
      refine HF21.out.mono ?_
      rintro e w22 ⟨rfl, hb22⟩
      rw [HEZ2.out]
      have P22 := Lib.hid (P21.out.trans (hb22.mono P21.out.size))
      have P2022 := Lib.hid (P2021.out.trans (hb22.mono P2021.out.size))
      have HO22 := Lib.hid (own_after O20.out P2022.out)
      have P1822 := Lib.hid (Nat.le_trans P1820.out P2022.out.size)
      have HZF : z.length = f.length := HZL.out
      have hzb : z.length ≤ 131084 := by omega
      clear hb22 HZF
      go_wp2_with (at_builtin; refine Hid.out ?_)
      refine Lib.hid ?_
      refine wpList_append_wide _ rfl _ _ 22 rfl _ 5 _ 1 1 Tryd.underlying22 HI.out rfl (by omega) _ z.length (vals z) rfl HO22.out A2 t.length c2 (vals t) rfl (by rw [vals_length]; omega) (fun h => by have := HA2.out h; omega) (bytes_news (QT.out.below P22.out)) (vals_one t) (by unfold maxLen; omega) (by omega) P1822.out ?_
      intro v23 w23 ho23 hg23
      rw [← vals_append, ← HS.out] at ho23
      have P23 := Lib.hid (P22.out.grown hg23 P22.out.size (fun k hk => Nat.le_trans P18.out.size (own_base' HO22.out k hk)))
      obtain ⟨_, X23, d23, rfl, hX23, _, hd23, _⟩ := own_bytes ho23
      have HF23 := Lib.hid (first_bad X23 d23 s w23 hX23 hd23 (by rw [HSL.out]; omega) (TT.out.below P23.out) (by rw [HES.out]; exact HE0.out))
      clear ho23 hg23 hX23
      go_wp2_with (fail)
      refine HF23.out.mono ?_
      rintro e w24 ⟨rfl, hb24⟩
      rw [HES2.out]
      have P24 := Lib.hid (P23.out.trans (hb24.mono P23.out.size))
      clear hb24
      go_wp2
      go_ret
      exact ⟨rfl, HB3.out.trans (P24.out.mono HB3.out.size)⟩

theorem givesBack_walk (A1 A2 : Option Addr) (c1 c2 : Nat) (p t : List UInt8) (cut bit : Int) (w : World) (hp : BytesAt w A1 p) (ht : BytesAt w A2 t) (hA1 : A1 = none → c1 = 0) (hA2 : A2 = none → c2 = 0) (hc1 : p.length ≤ c1) (hc2 : t.length ≤ c2)
    (hn1 : p.length ≤ 140737488351232) (hn2 : t.length ≤ 140737488351232) (hT : TableAt w) :
    Calls Tryd.prog 5 #[.slice A1 p.length c1, .int .i64 cut, .int .i64 bit, .slice A2 t.length c2] w (Lawful w) := by
  by_cases hbig : 131072 < p.length
  · exact givesBack_big A1 A2 c1 c2 p t cut bit w hp hA1 hc1 hn1 hbig
  · exact givesBack_small A1 A2 c1 c2 p t cut bit w hp ht hA1 hA2 hc1 hc2 hn2 hT (by omega)
end Go.Proofs.YtooagpjfcnpheaaDoor
