/- The checksum's arithmetic: no Go in sight. -/
namespace Go.Proofs.YtooagpjfcnpheaaDoor
def tbl : List Nat := [0, 274646895, 549293790, 820201905, 1098587580, 1361435347, 1640403810, 1905808397, 2197175160, 2460548119, 2722870694, 2987750089, 3280807620, 3553878443, 3811616794, 4084100981]
def nib (c : Nat) : Nat := (c / 16) ^^^ tbl.getD (c % 16) 0
def stepB (c : Nat) (x : UInt8) : Nat := nib (nib (c ^^^ x.toNat))
def reg (l : List UInt8) : Nat := l.foldl stepB 4294967295
def crc (l : List UInt8) : Nat := 4294967295 - reg l

theorem tbl_lt (i : Nat) : tbl.getD i 0 < 4294967296 := by
  by_cases h : i < 16
  · revert h; revert i; decide
  · rw [List.getD_eq_getElem?_getD, List.getElem?_eq_none (by simp [tbl]; omega)]; decide
theorem nib_lt {c : Nat} (h : c < 4294967296) : nib c < 4294967296 := by
  unfold nib
  exact Nat.xor_lt_two_pow (n := 32) (by omega) (tbl_lt _)
theorem stepB_lt {c : Nat} (h : c < 4294967296) (x : UInt8) : stepB c x < 4294967296 :=
  nib_lt (nib_lt (Nat.xor_lt_two_pow (n := 32) h (by have := x.toNat_lt; omega)))
theorem foldl_lt (l : List UInt8) : ∀ {c : Nat}, c < 4294967296 → l.foldl stepB c < 4294967296 := by
  induction l with
  | nil => intro c h; exact h
  | cons x l ih => intro c h; exact ih (stepB_lt h x)
theorem reg_lt (l : List UInt8) : reg l < 4294967296 := foldl_lt l (by omega)
theorem reg_take_succ (l : List UInt8) (k : Nat) (h : k < l.length) : reg (l.take (k + 1)) = stepB (reg (l.take k)) (l.getD k 0) := by
  unfold reg
  rw [List.take_succ_eq_append_getElem h, List.foldl_append]
  simp [List.getD, h]

/-- One byte's step, with a name for each number on the way. -/
theorem step_names {r : Nat} (h : r < 4294967296) (x : UInt8) : ∃ m i t n i2 t2 n2 : Nat, m = r ^^^ x.toNat ∧ m < 4294967296 ∧ i = m % 16 ∧ i < 16 ∧ t = tbl.getD i 0 ∧ t < 4294967296 ∧ n = m / 16 ^^^ t ∧ n < 4294967296 ∧
    i2 = n % 16 ∧ i2 < 16 ∧ t2 = tbl.getD i2 0 ∧ t2 < 4294967296 ∧ n2 = n / 16 ^^^ t2 ∧ n2 < 4294967296 ∧ n2 = stepB r x := by
  have hm : r ^^^ x.toNat < 4294967296 := Nat.xor_lt_two_pow (n := 32) h (by have := x.toNat_lt; omega)
  exact ⟨_, _, _, _, _, _, _, rfl, hm, rfl, by omega, rfl, tbl_lt _, rfl, nib_lt hm, rfl, by omega, rfl, tbl_lt _, rfl, nib_lt (nib_lt hm), rfl⟩

theorem not_xor {r : Nat} (h : r < 4294967296) : 4294967295 ^^^ r = 4294967295 - r := by
  apply Nat.eq_of_testBit_eq
  intro i
  have e := Nat.testBit_two_pow_sub_succ (x := r) (n := 32) (by omega) i
  rw [show 4294967295 - r = 2 ^ 32 - (r + 1) by omega, e, Nat.testBit_xor, show (4294967295 : Nat) = 2 ^ 32 - 1 by decide, Nat.testBit_two_pow_sub_one]
  by_cases hi : i < 32
  · simp [hi]
  · have : r.testBit i = false := Nat.testBit_lt_two_pow (Nat.lt_of_lt_of_le h (Nat.pow_le_pow_right (by omega : 2 > 0) (by omega : 32 ≤ i)))
    simp [hi, this]
theorem crc_lt (l : List UInt8) : crc l < 4294967296 := by unfold crc; omega
end Go.Proofs.YtooagpjfcnpheaaDoor
