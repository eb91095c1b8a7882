/- A frame with one byte changed is refused: no Go in sight. -/
import Derived.Test.YtooagpjfcnpheaaDoorEndsLaw
import Derived.Test.YtooagpjfcnpheaaDoorFlipped
namespace Go.Proofs.YtooagpjfcnpheaaDoor

theorem sum_inj {a b : Nat} (ha : a < 4294967296) (hb : b < 4294967296) (h1 : a / 16777216 % 256 = b / 16777216 % 256) (h2 : a / 65536 % 256 = b / 65536 % 256) (h3 : a / 256 % 256 = b / 256 % 256) (h4 : a % 256 = b % 256) : a = b := by omega

theorem toNat_ne {x y : UInt8} (h : x ≠ y) : x.toNat ≠ y.toNat := fun e => h (UInt8.toNat.inj e)

/-- What stands where in a frame with one byte changed. -/
theorem changed_get (p t : List UInt8) (k : Nat) (y : UInt8) (j : Nat) (hj : j < 12 + p.length) :
    ((frameB p).set k y ++ t).getD j 0 = if k = j then y else (frameB p).getD j 0 := by
  rw [getD_append_left (by rw [List.length_set, frameB_length]; omega)]
  by_cases h : k = j
  · subst h; rw [if_pos rfl, getD_set_eq (by rw [frameB_length]; omega)]
  · rw [if_neg h, getD_set_ne h]

theorem ends_changed (p t : List UInt8) (h : p.length ≤ 131072) (k : Nat) (y : UInt8) (hk : k < 12 + p.length) (hy : (frameB p).getD k 0 ≠ y) :
    ends ((frameB p).set k y ++ t) = (0, if k < 8 then 91 else 93) := by
  have F := framed p [] h
  rw [List.append_nil] at F
  have g := changed_get p t k y
  obtain ⟨L, hL⟩ : ∃ L, L = (frameB p).set k y ++ t := ⟨_, rfl⟩
  have hlen : 12 + p.length ≤ L.length := by rw [hL, List.length_append, List.length_set, frameB_length]; omega
  rw [← hL] at g ⊢
  have m0 := F.m0
  have m1 := F.m1
  obtain ⟨n5, n6, n7⟩ := F.nots
  have hs := F.size
  have b2 := ((frameB p).getD 2 0).toNat_lt
  have b3 := ((frameB p).getD 3 0).toNat_lt
  have b4 := ((frameB p).getD 4 0).toNat_lt
  have by' := y.toNat_lt
  have hyn := toNat_ne hy
  unfold ends
  rw [if_neg (by omega), g 0 (by omega)]
  by_cases k0 : k = 0
  · subst k0
    rw [if_pos rfl, if_pos (fun e => hy (by rw [m0, e])), if_pos (by omega)]
  rw [if_neg k0, if_neg (fun c => c m0), if_neg (by omega), g 1 (by omega)]
  by_cases k1 : k = 1
  · subst k1
    rw [if_pos rfl, if_pos (fun e => hy (by rw [m1, e])), if_pos (by omega)]
  rw [if_neg k1, if_neg (fun c => c m1), if_neg (by omega)]
  by_cases k8 : k < 8
  · have hn : ¬ notIs L := by
      unfold notIs
      rw [g 2 (by omega), g 3 (by omega), g 4 (by omega), g 5 (by omega), g 6 (by omega), g 7 (by omega)]
      have hc : k = 2 ∨ k = 3 ∨ k = 4 ∨ k = 5 ∨ k = 6 ∨ k = 7 := by omega
      rcases hc with rfl | rfl | rfl | rfl | rfl | rfl <;> simp only [if_true, if_false, Nat.reduceEqDiff] <;> omega
    rw [if_pos hn, if_pos k8]
  · have hn : notIs L := by
      unfold notIs
      rw [g 2 (by omega), g 3 (by omega), g 4 (by omega), g 5 (by omega), g 6 (by omega), g 7 (by omega)]
      rw [if_neg (by omega), if_neg (by omega), if_neg (by omega), if_neg (by omega), if_neg (by omega), if_neg (by omega)]
      exact ⟨n5, n6, n7⟩
    have hsz : size3 L = p.length := by
      unfold size3 at hs ⊢
      rw [g 2 (by omega), g 3 (by omega), g 4 (by omega), if_neg (by omega), if_neg (by omega), if_neg (by omega)]
      exact hs
    rw [if_neg (fun c => c hn), hsz, if_neg (by omega), if_neg (by omega), if_neg k8, if_pos]
    intro hsum
    obtain ⟨s8, s9, s10, s11⟩ := F.sum
    obtain ⟨t8, t9, t10, t11⟩ := hsum
    rw [g 8 (by omega)] at t8
    rw [g 9 (by omega)] at t9
    rw [g 10 (by omega)] at t10
    rw [g 11 (by omega)] at t11
    by_cases k12 : k < 12
    · have hb : body L = p := by
        unfold body
        rw [hsz, hL, frameB, List.set_append_left _ _ (by rw [headB_length]; omega), List.append_assoc, List.drop_left' (by rw [List.length_set, headB_length]), List.take_left' rfl]
      rw [hb] at t8 t9 t10 t11
      have hc : k = 8 ∨ k = 9 ∨ k = 10 ∨ k = 11 := by omega
      rcases hc with rfl | rfl | rfl | rfl <;> simp only [if_true, if_false, Nat.reduceEqDiff] at t8 t9 t10 t11 <;> omega
    · rw [if_neg (by omega)] at t8 t9 t10 t11
      have hb : body L = p.set (k - 12) y := by
        unfold body
        rw [hsz, hL, frameB, List.set_append_right _ _ (by rw [headB_length]; omega), List.append_assoc, List.drop_left' (headB_length p), headB_length, List.take_left' (by rw [List.length_set])]
      rw [hb] at t8 t9 t10 t11
      have he : crc (p.set (k - 12) y) = crc p := sum_inj (crc_lt _) (crc_lt _) (by omega) (by omega) (by omega) (by omega)
      refine crc_ne (reg_set_ne p (k - 12) y (by omega) ?_) he
      intro e
      apply hy
      rw [frameB, List.getD_eq_getElem?_getD, List.getElem?_append_right (by rw [headB_length]; omega), headB_length, ← List.getD_eq_getElem?_getD, e]

/-- One bit turned. -/
theorem ends_flip (p t : List UInt8) (h : p.length ≤ 131072) (i : Nat) (hi : i < 8 * (12 + p.length)) : ends (flip (frameB p) i ++ t) = (0, if i < 64 then 91 else 93) := by
  have := ends_changed p t h (i / 8) _ (by omega) (xor_flip_ne ((frameB p).getD (i / 8) 0) (s := i % 8) (by omega))
  unfold flip
  rw [this]
  by_cases h64 : i < 64
  · rw [if_pos h64, if_pos (by omega)]
  · rw [if_neg h64, if_neg (by omega)]
end Go.Proofs.YtooagpjfcnpheaaDoor
