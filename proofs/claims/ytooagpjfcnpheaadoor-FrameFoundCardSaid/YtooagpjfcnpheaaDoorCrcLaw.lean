/- The checksum's algebra: it is linear over exclusive or, and no one bit is lost. No Go in sight. -/
import Derived.Test.YtooagpjfcnpheaaDoorCrc
namespace Go.Proofs.YtooagpjfcnpheaaDoor

theorem tbl_xor : ∀ i, i < 16 → ∀ j, j < 16 → tbl.getD (i ^^^ j) 0 = tbl.getD i 0 ^^^ tbl.getD j 0 := by decide
theorem tbl_big : ∀ i, i < 16 → i ≠ 0 → 268435456 ≤ tbl.getD i 0 := by decide

theorem nib_xor (a b : Nat) : nib (a ^^^ b) = nib a ^^^ nib b := by
  unfold nib
  have h1 : (a ^^^ b) / 16 = a / 16 ^^^ b / 16 := Nat.xor_div_two_pow (n := 4)
  have h2 : (a ^^^ b) % 16 = a % 16 ^^^ b % 16 := Nat.xor_mod_two_pow (n := 4)
  rw [h1, h2, tbl_xor _ (by omega) _ (by omega)]
  ac_rfl
theorem nib_zero {c : Nat} (h : c < 4294967296) (h0 : nib c = 0) : c = 0 := by
  unfold nib at h0
  have h1 : c / 16 = tbl.getD (c % 16) 0 := by
    have := congrArg (· ^^^ tbl.getD (c % 16) 0) h0
    simpa [Nat.xor_assoc] using this
  by_cases hi : c % 16 = 0
  · rw [hi] at h1
    have : tbl.getD 0 0 = 0 := rfl
    omega
  · have := tbl_big (c % 16) (by omega) hi
    omega
theorem xor_zero_eq {a b : Nat} (h : a ^^^ b = 0) : a = b := by
  have := congrArg (· ^^^ b) h
  simpa [Nat.xor_assoc] using this
theorem nib_inj {a b : Nat} (ha : a < 4294967296) (hb : b < 4294967296) (h : nib a = nib b) : a = b := by
  apply xor_zero_eq
  apply nib_zero (Nat.xor_lt_two_pow (n := 32) ha hb)
  rw [nib_xor, h, Nat.xor_self]

theorem in_lt {c : Nat} (h : c < 4294967296) (x : UInt8) : c ^^^ x.toNat < 4294967296 := Nat.xor_lt_two_pow (n := 32) h (by have := x.toNat_lt; omega)
theorem stepB_inj {a b : Nat} (ha : a < 4294967296) (hb : b < 4294967296) (x : UInt8) (h : stepB a x = stepB b x) : a = b := by
  unfold stepB at h
  have := nib_inj (in_lt ha x) (in_lt hb x) (nib_inj (nib_lt (in_lt ha x)) (nib_lt (in_lt hb x)) h)
  have := congrArg (· ^^^ x.toNat) this
  simpa [Nat.xor_assoc] using this
theorem stepB_byte {a : Nat} (ha : a < 4294967296) (x y : UInt8) (h : stepB a x = stepB a y) : x = y := by
  unfold stepB at h
  have := nib_inj (in_lt ha x) (in_lt ha y) (nib_inj (nib_lt (in_lt ha x)) (nib_lt (in_lt ha y)) h)
  have := congrArg (a ^^^ ·) this
  have h2 : x.toNat = y.toNat := by simpa [← Nat.xor_assoc] using this
  exact UInt8.toNat.inj h2
theorem foldl_inj (l : List UInt8) : ∀ {a b : Nat}, a < 4294967296 → b < 4294967296 → l.foldl stepB a = l.foldl stepB b → a = b := by
  induction l with
  | nil => intro a b _ _ h; exact h
  | cons x l ih => intro a b ha hb h; exact stepB_inj ha hb x (ih (stepB_lt ha x) (stepB_lt hb x) h)

theorem reg_set_ne (l : List UInt8) (i : Nat) (y : UInt8) (hi : i < l.length) (h : l.getD i 0 ≠ y) : reg (l.set i y) ≠ reg l := by
  have e1 : l = l.take i ++ l.getD i 0 :: l.drop (i + 1) := by
    rw [List.getD_eq_getElem?_getD, List.getElem?_eq_getElem hi, Option.getD_some, List.getElem_cons_drop, List.take_append_drop]
  have e2 : l.set i y = l.take i ++ y :: l.drop (i + 1) := by rw [List.set_eq_take_append_cons_drop, if_pos hi]
  rw [e2]
  intro he
  rw [congrArg reg e1] at he
  unfold reg at he
  rw [List.foldl_append, List.foldl_append, List.foldl_cons, List.foldl_cons] at he
  have hr : (l.take i).foldl stepB 4294967295 < 4294967296 := foldl_lt _ (by omega)
  exact h (stepB_byte hr _ _ (foldl_inj _ (stepB_lt hr _) (stepB_lt hr _) he)).symm
theorem crc_ne {l m : List UInt8} (h : reg l ≠ reg m) : crc l ≠ crc m := by
  have h1 := reg_lt l
  have h2 := reg_lt m
  unfold crc; omega

theorem xor3 (a b c d e f : Nat) : (a ^^^ b ^^^ c) ^^^ (d ^^^ e ^^^ f) = (a ^^^ d) ^^^ (b ^^^ e) ^^^ (c ^^^ f) := by ac_rfl
theorem stepB_xor3 (a b c : Nat) (x y z : UInt8) : stepB (a ^^^ b ^^^ c) (x ^^^ y ^^^ z) = stepB a x ^^^ stepB b y ^^^ stepB c z := by
  unfold stepB
  rw [UInt8.toNat_xor, UInt8.toNat_xor, xor3, nib_xor, nib_xor, nib_xor, nib_xor]
def xors : List UInt8 → List UInt8 → List UInt8 → List UInt8
  | x :: xs, y :: ys, z :: zs => (x ^^^ y ^^^ z) :: xors xs ys zs
  | _, _, _ => []
theorem foldl_xor3 : ∀ (x y z : List UInt8), x.length = y.length → x.length = z.length → ∀ a b c : Nat, (xors x y z).foldl stepB (a ^^^ b ^^^ c) = x.foldl stepB a ^^^ y.foldl stepB b ^^^ z.foldl stepB c := by
  intro x
  induction x with
  | nil => intro y z h1 h2 a b c; cases y <;> cases z <;> simp_all [xors]
  | cons x xs ih =>
    intro y z h1 h2 a b c
    cases y with
    | nil => simp at h1
    | cons y ys =>
      cases z with
      | nil => simp at h2
      | cons z zs =>
        simp only [xors, List.foldl_cons, stepB_xor3]
        exact ih ys zs (by simpa using h1) (by simpa using h2) _ _ _
theorem crc_xor3 (x y z : List UInt8) (h1 : x.length = y.length) (h2 : x.length = z.length) : crc (xors x y z) = crc x ^^^ crc y ^^^ crc z := by
  unfold crc
  rw [← not_xor (reg_lt _), ← not_xor (reg_lt _), ← not_xor (reg_lt _), ← not_xor (reg_lt _)]
  have := foldl_xor3 x y z h1 h2 4294967295 4294967295 4294967295
  rw [show (4294967295 : Nat) ^^^ 4294967295 ^^^ 4294967295 = 4294967295 by decide] at this
  show 4294967295 ^^^ reg (xors x y z) = _
  unfold reg
  rw [this, ← xor3, show (4294967295 : Nat) ^^^ 4294967295 ^^^ 4294967295 = 4294967295 by decide]
theorem xors_length : ∀ (x y z : List UInt8), (xors x y z).length = min (min x.length y.length) z.length := by
  intro x
  induction x with
  | nil => intro y z; simp [xors]
  | cons x xs ih =>
    intro y z
    cases y with
    | nil => simp [xors]
    | cons y ys =>
      cases z with
      | nil => simp [xors]
      | cons z zs => simp [xors, ih]
theorem xors_get (n : Nat) : ∀ (x y z : List UInt8) (k : Nat), k < n → k < x.length → k < y.length → k < z.length → (xors (x.take n) (y.take n) (z.take n)).getD k 0 = x.getD k 0 ^^^ y.getD k 0 ^^^ z.getD k 0 := by
  induction n with
  | zero => intro x y z k h; omega
  | succ n ih =>
    intro x y z k h h1 h2 h3
    cases x with
    | nil => simp at h1
    | cons x xs =>
      cases y with
      | nil => simp at h2
      | cons y ys =>
        cases z with
        | nil => simp at h3
        | cons z zs =>
          cases k with
          | zero => simp [xors]
          | succ k =>
            have := ih xs ys zs k (by omega) (by simpa using h1) (by simpa using h2) (by simpa using h3)
            simpa [xors] using this
theorem crc_nine : crc [49, 50, 51, 52, 53, 54, 55, 56, 57] = 3808858755 := by decide
theorem crc_nil : crc [] = 0 := rfl

theorem xor_flip_ne (x : UInt8) {s : Nat} (h : s < 8) : x ≠ UInt8.ofNat (x.toNat ^^^ 2 ^ s) := by
  intro e
  have hp : 2 ^ s < 256 := by
    have : s = 0 ∨ s = 1 ∨ s = 2 ∨ s = 3 ∨ s = 4 ∨ s = 5 ∨ s = 6 ∨ s = 7 := by omega
    rcases this with rfl | rfl | rfl | rfl | rfl | rfl | rfl | rfl <;> decide
  have h8 := x.toNat_lt
  have hx : x.toNat ^^^ 2 ^ s < 256 := Nat.xor_lt_two_pow (n := 8) (by omega) (by omega)
  have e2 := congrArg UInt8.toNat e
  rw [UInt8.toNat_ofNat', Nat.mod_eq_of_lt (by omega)] at e2
  have e3 := congrArg (x.toNat ^^^ ·) e2
  simp only [Nat.xor_self, ← Nat.xor_assoc, Nat.zero_xor] at e3
  have := Nat.two_pow_pos s
  omega
end Go.Proofs.YtooagpjfcnpheaaDoor
