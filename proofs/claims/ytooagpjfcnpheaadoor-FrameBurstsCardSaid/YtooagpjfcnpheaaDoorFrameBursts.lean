/- FrameBursts: bits turned within 32 that stand side by side, all in the payload or all in the checksum, are told. -/
import Derived.Test.YtooagpjfcnpheaaDoorFrameOpen
import Derived.Test.YtooagpjfcnpheaaDoorBurstLaw
import Derived.Test.YtooagpjfcnpheaaDoorLaw
import Derived.Deep.DeepCutAuto
namespace Go.Proofs.YtooagpjfcnpheaaDoor
open Go.RowKit

set_option maxHeartbeats 800000 in
set_option maxRecDepth 100000 in
theorem turned_any (base g cap : Nat) (l : List UInt8) (b : Nat) (w : World) (hown : w.ownsRow base 5 1 (.slice (some ⟨g, 0, none⟩) l.length cap) l.length (vals l)) (hg : base ≤ g) (hb1 : b < 8 * l.length) (hn : l.length ≤ 140737488351232) :
    Calls Tryd.prog 25 #[.slice (some ⟨g, 0, none⟩) l.length cap, .int .i64 (b : Int)] w fun e w' => e = .returned (.slice (some ⟨g, 0, none⟩) l.length cap) ∧ w'.ownsRow base 5 1 (.slice (some ⟨g, 0, none⟩) l.length cap) l.length (vals (flip l b)) ∧ Below base w w' := by
  obtain ⟨i, hi⟩ : ∃ i : Nat, i = b / 8 := ⟨_, rfl⟩
  obtain ⟨s, hs⟩ : ∃ s : Nat, s = b % 8 := ⟨_, rfl⟩
  have hil : i < l.length := by omega
  have c0 : w.cell? ⟨g, i, none⟩ = some (.int .u8 ((l.getD i 0).toNat : Int)) := by
    rw [hown.cellAt i (by omega)]
    simp [vals, u8, hil]
  have f0 := hown.frozenAt i
  obtain ⟨x, hx⟩ : ∃ x, x = (l.getD i 0) := ⟨_, rfl⟩
  rw [← hx] at c0
  have hx8 := x.toNat_lt
  have q1 : (b : Int) / 8 = (i : Int) := by omega
  have q2 : (b : Int) % 8 = (s : Int) := by omega
  have hs8 : s < 8 := by omega
  have HX := Lib.hid hx
  have HO := Lib.hid hown
  have HI := Lib.hid hi
  have HS := Lib.hid hs
  clear hx hown hi hs
  go_enter Tryd.func25, Tryd.ntmps25
  go_wp2
  go_region
  go_wp2
  go_ret
  have hfl : (vals l).set i (.int .u8 (bits .xor .u8 (x.toNat : Int) (2 ^ s % 256))) = vals (flip l b) := by
    rw [xor_bit x hs8]
    unfold flip
    rw [← vals_set, ← HI.out, ← HS.out, ← HX.out]; rfl
  refine ⟨rfl, ?_, ?_⟩
  · rw [← hfl]
    exact (HO.out.stored i _).1.drew
  · exact ((Below.refl _ _).setCell hg _).drew

theorem turned_n (base g cap n : Nat) (l : List UInt8) (b : Nat) (w : World) (hown : w.ownsRow base 5 1 (.slice (some ⟨g, 0, none⟩) n cap) n (vals l)) (hg : base ≤ g) (hb1 : b < 8 * n) (hn : n ≤ 140737488351232) (e : n = l.length) :
    Calls Tryd.prog 25 #[.slice (some ⟨g, 0, none⟩) n cap, .int .i64 (b : Int)] w fun e w' => e = .returned (.slice (some ⟨g, 0, none⟩) n cap) ∧ w'.ownsRow base 5 1 (.slice (some ⟨g, 0, none⟩) n cap) n (vals (flip l b)) ∧ Below base w w' := by
  subst e; exact turned_any base g cap l b w hown hg hb1 hn

theorem own_later {w w' : World} {base : Nat} {e : TypeId} {size : Nat} {v : Value} {n : Nat} {xs : List Value} (h : w.ownsRow base e size v n xs) (hb : Below w.heap.size w w') : w'.ownsRow base e size v n xs := by
  refine ⟨h.1, ?_⟩
  rcases h.2 with h0 | ⟨g, cap, cur, rfl, hbg, hg, r⟩
  · exact .inl h0
  · exact .inr ⟨g, cap, cur, rfl, hbg, (hb.block g (Array.getElem?_eq_some_iff.1 hg).1).trans hg, r⟩

theorem mask_bit (m k : Nat) (hm : m < 4294967296) : bits .and .u32 ((m : Int) / 2 ^ k) 1 = ((m / 2 ^ k % 2 : Nat) : Int) := by
  have h1 : m / 2 ^ k < 4294967296 := Nat.lt_of_le_of_lt (Nat.div_le_self _ _) hm
  have h2 : ((m / 2 ^ k : Nat) : Int) = (m : Int) / 2 ^ k := by rw [Int.natCast_ediv, Int.natCast_pow]; rfl
  have h3 := u32_and_nat (m / 2 ^ k) 1 h1 (by omega)
  rw [Nat.and_one_is_mod, h2] at h3
  exact h3

set_option maxHeartbeats 2000000 in
set_option maxRecDepth 100000 in
theorem bursts_walk (A : Option Addr) (c : Nat) (p : List UInt8) (at' : Int) (M : Nat) (w : World) (hp : BytesAt w A p) (hA : A = none → c = 0) (hc : p.length ≤ c) (hM : M < 4294967296) (hT : TableAt w) :
    Calls Tryd.prog 7 #[.slice A p.length c, .int .i64 at', .int .u32 (M : Int)] w (Lawful w) := by
  by_cases hbig : 131072 < p.length
  · have hbi : (131072 : Int) < (p.length : Int) := by omega
    clear hp hA hT
    go_enter Tryd.func7, Tryd.ntmps7
    go_wp2
    go_ret
    exact ⟨rfl, Below.refl _ _⟩
  have hsm : p.length ≤ 131072 := by omega
  have hbi : (p.length : Int) ≤ 131072 := by omega
  have hw := wrapped_any A c p w hp hA hc hsm hT
  unfold Wrapped at hw
  obtain ⟨f, hf⟩ : ∃ f, f = frameB p := ⟨_, rfl⟩
  have hfl : f.length = 12 + p.length := by rw [hf, frameB_length]
  obtain ⟨m, hm⟩ : ∃ m, m = if M = 0 then 1 else M := ⟨_, rfl⟩
  have hm0 : m ≠ 0 := by rw [hm]; split <;> omega
  have hm32 : m < 4294967296 := by rw [hm]; split <;> omega
  have hf1 : 12 ≤ f.length := by omega
  have hf2 : f.length ≤ 131084 := by omega
  rw [← hf] at hw
  have HW := Lib.hid hw
  have HF := Lib.hid hf
  have HFL := Lib.hid hfl
  have HM := Lib.hid hm
  have HM0 := Lib.hid hm0
  have HT := Lib.hid hT
  clear hw hf hfl hm hm0 hp hA hT hbig
  go_enter Tryd.func7, Tryd.ntmps7
  go_wp2_with (fail)
  refine HW.out.mono ?_
  rintro e w3 ⟨v3, rfl, ho3, hb3⟩
  obtain ⟨g, cap, rfl, hg, _, hcap, _⟩ := own_shape ho3 (by omega)
  obtain ⟨_, B, d, hBe, hB, hBn, hBd, hd63⟩ := own_bytes ho3
  have HB3 := Lib.hid hb3
  have O3 := Lib.hid ho3
  have TT := Lib.hid (HT.out.below hb3)
  clear ho3 hb3 hB hBn hBd hd63 hBe
  go_upto_if 29 with (fail)
  go_cut [2] (fun s wx => s = .int .u32 (m : Int) ∧ w3 = wx)
  case first =>
    by_cases h : M = 0
    · have he := HM.out
      rw [if_pos h] at he
      have HHE := Lib.hid he
      have h0 : ((M : Int) == 0) = true := by rw [h]; rfl
      clear h he
      go_wp2
      go_meet
      exact ⟨by rw [HHE.out]; rfl, rfl⟩
    · have he := HM.out
      rw [if_neg h] at he
      have HHE := Lib.hid he
      have h0 : ((M : Int) == 0) = false := by rw [beq_eq_false_iff_ne]; omega
      clear h he
      go_wp2
      go_meet
      exact ⟨by rw [HHE.out], rfl⟩
  case rest =>
    obtain ⟨rfl, rfl⟩ := hcut
    go_upto_if 32 with (fail)
    go_cut [6] (fun s wx => s = .bool false ∧ Below w3.heap.size w3 wx)
    case first =>
      by_cases h4 : 4 ≤ p.length
      · have h4i : (4 : Int) ≤ (p.length : Int) := by omega
        obtain ⟨b, hb⟩ : ∃ b : Nat, (b : Int) = at' % (8 * (p.length : Int) - 31) := ⟨(at' % (8 * (p.length : Int) - 31)).toNat, by have := Int.emod_nonneg at' (show 8 * (p.length : Int) - 31 ≠ 0 by omega); omega⟩
        have hbl : b + 32 ≤ 8 * p.length := by have := Int.emod_lt_of_pos at' (show (0 : Int) < 8 * (p.length : Int) - 31 by omega); omega
        have HBB := Lib.hid hb
        obtain ⟨_, B, d, hBe, hB, hBn, hBd, _⟩ := own_bytes O3.out
        cases hBe
        have HC := Lib.hid (copied_any (some ⟨g, 0, none⟩) cap f w3 hB hBn hBd (by omega))
        clear hb hB hBn hBd
        go_wp2_with (fail)
        refine HC.out.mono ?_
        rintro e w4 ⟨v4, rfl, ho4, hb4⟩
        obtain ⟨g4, cap4, rfl, hg4, _, hcap4, _⟩ := own_shape ho4 (by omega)
        have O4 := Lib.hid ho4
        have P4 := Lib.hid hb4
        clear ho4 hb4
        go_wp2_with (fail)
        refine (rest_any at' (8 * (p.length : Int) - 31) _ (by omega) (by omega)).mono ?_
        rintro e w5 ⟨rfl, rfl⟩
        rw [← HBB.out]
        go_wp2
        go_loopw [9, 11] (fun v i wr => v = .slice (some ⟨g4, 0, none⟩) f.length cap4 ∧ ∃ k : Nat, k ≤ 32 ∧ i = .int .i64 k ∧ wr.ownsRow w3.heap.size 5 1 (.slice (some ⟨g4, 0, none⟩) f.length cap4) f.length (vals (turns f (96 + b) m k)) ∧ Below w3.heap.size w3 wr)
          (fun _ i _ => 32 - (intOf i).toNat)
        case atStart => exact ⟨rfl, 0, by omega, rfl, O4.out, P4.out⟩
        case round =>
          obtain ⟨rfl, k, hk, rfl, ho, hb⟩ := hrel
          have HO := Lib.hid ho
          have HB := Lib.hid hb
          clear ho hb
          by_cases hlt : k < 32
          · have hki : (k : Int) < 32 := by omega
            have hbk : b + k < 8 * p.length := by omega
            have hst : IntKind.i64.wrap (96 + (b : Int) + (k : Int)) = ((96 + b + k : Nat) : Int) := by rw [IntKind.wrap_i64]; omega
            by_cases hbit : m / 2 ^ k % 2 = 1
            · have hq : (bits .and .u32 ((m : Int) / 2 ^ k) 1 == 1) = true := by rw [mask_bit m k hm32, hbit]; rfl
              have HBT := Lib.hid hbit
              have htu := turned_n w3.heap.size g4 cap4 f.length (turns f (96 + b) m k) (96 + b + k) wr HO.out hg4 (by have := HFL.out; omega) (by omega) (turns_length _ _ _ _).symm
              rw [show ((96 + b + k : Nat) : Int) = 96 + (b : Int) + (k : Int) by omega] at htu
              have HTU := Lib.hid htu
              clear hbit htu
              go_wp2_with (fail)
              refine HTU.out.mono ?_
              rintro e w5 ⟨rfl, ho5, hb5⟩
              have HO5 := Lib.hid ho5
              have HB5 := Lib.hid (HB.out.trans hb5)
              clear ho5 hb5
              go_wp2
              go_roundw
              case rel =>
                refine ⟨rfl, k + 1, by omega, by go_num, ?_, HB5.out⟩
                rw [turns, if_pos HBT.out]; exact HO5.out
              case measure => simp [intOf]; omega
            · have hq : (bits .and .u32 ((m : Int) / 2 ^ k) 1 == 1) = false := by rw [mask_bit m k hm32, beq_eq_false_iff_ne]; omega
              have HBT := Lib.hid hbit
              clear hbit
              go_wp2
              go_roundw
              case rel =>
                refine ⟨rfl, k + 1, by omega, by go_num, ?_, HB.out⟩
                rw [turns, if_neg HBT.out]; exact HO.out
              case measure => simp [intOf]; omega
          · obtain rfl : k = 32 := by omega
            have he : ends (turns f (96 + b) m 32) = (0, 93) := by rw [HF.out]; exact ends_burst p hsm b m HM0.out hm32 hbl
            obtain ⟨z, hz⟩ : ∃ z, z = turns f (96 + b) m 32 := ⟨_, rfl⟩
            have hzl : f.length = z.length := by rw [hz, turns_length]
            rw [← hz] at he
            have he2 : ((ends z).2 : Int) = 93 := by rw [he]; rfl
            have ho := HO.out
            rw [← hz, hzl] at ho
            obtain ⟨_, X, d5, hXe, hX, _, hd5, _⟩ := own_bytes ho
            cases hXe
            have HFB := first_bad (some ⟨g4, 0, none⟩) cap4 z wr hX hd5 (by omega) (TT.out.below HB.out) (by rw [he]; decide)
            rw [← hzl] at HFB
            have HFB := Lib.hid HFB
            have HE2 := Lib.hid he2
            clear he hz hzl he2 ho hX
            go_wp2_with (fail)
            refine HFB.out.mono ?_
            rintro e w6 ⟨rfl, hb6⟩
            rw [HE2.out]
            have P6 := Lib.hid (HB.out.trans (hb6.mono HB.out.size))
            clear hb6
            go_wp2
            go_meet
            exact ⟨rfl, P6.out⟩
      · have h4i : (p.length : Int) < 4 := by omega
        go_wp2
        go_meet
        exact ⟨rfl, Below.refl _ _⟩
    case rest =>
      obtain ⟨rfl, hb⟩ := hcut
      have HBW := Lib.hid hb
      have OW := Lib.hid (own_later O3.out hb)
      clear hb
      go_wp2
      go_loopw [7, 15] (fun v i wr => v = .slice (some ⟨g, 0, none⟩) f.length cap ∧ ∃ k : Nat, k ≤ 32 ∧ i = .int .i64 k ∧ wr.ownsRow w.heap.size 5 1 (.slice (some ⟨g, 0, none⟩) f.length cap) f.length (vals (turns f 64 m k)) ∧ Below w.heap.size w wr)
        (fun _ i _ => 32 - (intOf i).toNat)
      case atStart => exact ⟨rfl, 0, by omega, rfl, OW.out, HB3.out.trans (HBW.out.mono HB3.out.size)⟩
      case round =>
        obtain ⟨rfl, k, hk, rfl, ho, hb⟩ := hrel
        have HO := Lib.hid ho
        have HB := Lib.hid hb
        clear ho hb
        by_cases hlt : k < 32
        · have hki : (k : Int) < 32 := by omega
          have hst : IntKind.i64.wrap (64 + (k : Int)) = ((64 + k : Nat) : Int) := by rw [IntKind.wrap_i64]; omega
          by_cases hbit : m / 2 ^ k % 2 = 1
          · have hq : (bits .and .u32 ((m : Int) / 2 ^ k) 1 == 1) = true := by rw [mask_bit m k hm32, hbit]; rfl
            have HBT := Lib.hid hbit
            have htu := turned_n w.heap.size g cap f.length (turns f 64 m k) (64 + k) wr HO.out hg (by omega) (by omega) (turns_length _ _ _ _).symm
            rw [show ((64 + k : Nat) : Int) = 64 + (k : Int) by omega] at htu
            have HTU := Lib.hid htu
            clear hbit htu
            go_wp2_with (fail)
            refine HTU.out.mono ?_
            rintro e w5 ⟨rfl, ho5, hb5⟩
            have HO5 := Lib.hid ho5
            have HB5 := Lib.hid (HB.out.trans hb5)
            clear ho5 hb5
            go_wp2
            go_roundw
            case rel =>
              refine ⟨rfl, k + 1, by omega, by go_num, ?_, HB5.out⟩
              rw [turns, if_pos HBT.out]; exact HO5.out
            case measure => simp [intOf]; omega
          · have hq : (bits .and .u32 ((m : Int) / 2 ^ k) 1 == 1) = false := by rw [mask_bit m k hm32, beq_eq_false_iff_ne]; omega
            have HBT := Lib.hid hbit
            clear hbit
            go_wp2
            go_roundw
            case rel =>
              refine ⟨rfl, k + 1, by omega, by go_num, ?_, HB.out⟩
              rw [turns, if_neg HBT.out]; exact HO.out
            case measure => simp [intOf]; omega
        · obtain rfl : k = 32 := by omega
          have he : ends (turns f 64 m 32) = (0, 93) := by rw [HF.out]; exact ends_sum_burst p hsm m HM0.out hm32
          obtain ⟨z, hz⟩ : ∃ z, z = turns f 64 m 32 := ⟨_, rfl⟩
          have hzl : f.length = z.length := by rw [hz, turns_length]
          rw [← hz] at he
          have he2 : ((ends z).2 : Int) = 93 := by rw [he]; rfl
          have ho := HO.out
          rw [← hz, hzl] at ho
          obtain ⟨_, X, d5, hXe, hX, _, hd5, _⟩ := own_bytes ho
          cases hXe
          have HFB := open_bad (some ⟨g, 0, none⟩) cap z wr hX hd5 (by omega) (HT.out.below HB.out) (by rw [he]; decide)
          rw [← hzl] at HFB
          have HFB := Lib.hid HFB
          have HE2 := Lib.hid he2
          clear he hz hzl he2 ho hX
          go_wp2_with (fail)
          refine HFB.out.mono ?_
          rintro e w6 ⟨rfl, hb6⟩
          rw [HE2.out]
          have P6 := Lib.hid (HB.out.trans (hb6.mono HB.out.size))
          clear hb6
          go_wp2
          go_ret
          exact ⟨rfl, P6.out⟩
end Go.Proofs.YtooagpjfcnpheaaDoor
