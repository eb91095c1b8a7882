/- Bits turned within 32 that stand side by side change the checksum: no Go in sight. -/
import Derived.Test.YtooagpjfcnpheaaDoorFlipLaw
namespace Go.Proofs.YtooagpjfcnpheaaDoor

/-- One bit's step. -/
def bitR (c : Nat) : Nat := (c / 2) ^^^ (if c % 2 = 1 then 2197175160 else 0)
def iter (f : Nat → Nat) : Nat → Nat → Nat
  | 0, x => x
  | n + 1, x => iter f n (f x)
theorem iter_add (f : Nat → Nat) (m : Nat) : ∀ n x, iter f (n + m) x = iter f m (iter f n x) := by
  intro n
  induction n with
  | zero => intro x; simp [iter]
  | succ n ih => intro x; rw [Nat.add_right_comm, iter, ih, iter]

theorem bitR_xor (a b : Nat) : bitR (a ^^^ b) = bitR a ^^^ bitR b := by
  unfold bitR
  have hx : (a ^^^ b) % 2 = a % 2 ^^^ b % 2 := Nat.xor_mod_two_pow (n := 1)
  rw [Nat.xor_div_two, hx]
  have h1 : a % 2 = 0 ∨ a % 2 = 1 := by omega
  have h2 : b % 2 = 0 ∨ b % 2 = 1 := by omega
  rcases h1 with h1 | h1 <;> rcases h2 with h2 | h2 <;> rw [h1, h2]
  · simp
  · simp only [Nat.zero_xor, if_true, Nat.zero_ne_one, if_false, Nat.xor_zero]; ac_rfl
  · simp only [Nat.xor_zero, if_true, Nat.zero_ne_one, if_false]; ac_rfl
  · simp only [Nat.xor_self, Nat.zero_ne_one, if_true, if_false, Nat.xor_zero]
    rw [show a / 2 ^^^ 2197175160 ^^^ (b / 2 ^^^ 2197175160) = a / 2 ^^^ b / 2 ^^^ (2197175160 ^^^ 2197175160) by ac_rfl, Nat.xor_self, Nat.xor_zero]
theorem bitR_two (x : Nat) : bitR (2 * x) = x := by
  unfold bitR
  rw [if_neg (by omega), Nat.xor_zero]; omega
theorem iter_xor (n : Nat) : ∀ a b, iter bitR n (a ^^^ b) = iter bitR n a ^^^ iter bitR n b := by
  induction n with
  | zero => intro a b; rfl
  | succ n ih => intro a b; rw [iter, bitR_xor, ih]; rfl
theorem iter_shift (n : Nat) : ∀ x, iter bitR n (2 ^ n * x) = x := by
  induction n with
  | zero => intro x; simp [iter]
  | succ n ih => intro x; rw [iter, Nat.pow_succ, Nat.mul_comm (2 ^ n) 2, Nat.mul_assoc, bitR_two, ih]
theorem bitR_lt {c : Nat} (h : c < 4294967296) : bitR c < 4294967296 := by
  unfold bitR
  exact Nat.xor_lt_two_pow (n := 32) (by omega) (by split <;> omega)
theorem bitR_zero {c : Nat} (h : c < 4294967296) (h0 : bitR c = 0) : c = 0 := by
  unfold bitR at h0
  have := xor_zero_eq h0
  split at this <;> omega
theorem iter_ne (n : Nat) : ∀ {c : Nat}, c < 4294967296 → c ≠ 0 → iter bitR n c ≠ 0 := by
  induction n with
  | zero => intro c _ h; exact h
  | succ n ih => intro c h h0; exact ih (bitR_lt h) (fun e => h0 (bitR_zero h e))

theorem split_xor (a b k : Nat) (h : a < 2 ^ k) : a + 2 ^ k * b = a ^^^ (2 ^ k * b) := by
  have := Nat.two_pow_add_eq_or_of_lt h b
  rw [Nat.add_comm, this]
  apply Nat.eq_of_testBit_eq
  intro i
  rw [Nat.testBit_or, Nat.testBit_xor, Nat.testBit_two_pow_mul]
  by_cases hi : i < k
  · simp [show ¬ k ≤ i by omega]
  · have : a.testBit i = false := Nat.testBit_lt_two_pow (Nat.lt_of_lt_of_le h (Nat.pow_le_pow_right (by omega) (by omega)))
    simp [this]
theorem tbl_bits : ∀ i, i < 16 → iter bitR 4 i = tbl.getD i 0 := by decide
theorem nib_bits (c : Nat) : nib c = iter bitR 4 c := by
  have h : c = (c % 16) ^^^ (2 ^ 4 * (c / 16)) := by
    rw [← split_xor _ _ 4 (by omega)]; omega
  have : iter bitR 4 c = iter bitR 4 ((c % 16) ^^^ (2 ^ 4 * (c / 16))) := by rw [← h]
  rw [this, iter_xor, iter_shift, tbl_bits _ (by omega), nib, Nat.xor_comm]
theorem stepB_bits (c : Nat) (x : UInt8) : stepB c x = iter bitR 8 (c ^^^ x.toNat) := by
  rw [stepB, nib_bits, nib_bits, ← iter_add]

/-- The number that a list of bytes is, the lowest first. -/
def LE : List UInt8 → Nat
  | [] => 0
  | x :: l => x.toNat + 2 ^ 8 * LE l
theorem fold_LE : ∀ (l : List UInt8) (c : Nat), l.foldl stepB c = iter bitR (8 * l.length) (c ^^^ LE l) := by
  intro l
  induction l with
  | nil => intro c; simp [LE, iter]
  | cons x l ih =>
    intro c
    rw [List.foldl_cons, ih, List.length_cons, show 8 * (l.length + 1) = 8 + 8 * l.length by omega, iter_add, LE, split_xor _ _ 8 x.toNat_lt, ← Nat.xor_assoc, iter_xor 8, iter_shift, stepB_bits]

theorem crc_burst (l m : List UInt8) (b k : Nat) (hl : l.length = m.length) (h : LE m = LE l ^^^ (2 ^ b * k)) (h0 : k ≠ 0) (h32 : k < 4294967296) (hb : b ≤ 8 * l.length) : crc m ≠ crc l := by
  apply crc_ne
  unfold reg
  rw [fold_LE, fold_LE, h, ← hl, ← Nat.xor_assoc, iter_xor]
  intro e
  have e2 : iter bitR (8 * l.length) (2 ^ b * k) = 0 := by
    have := congrArg (fun n => iter bitR (8 * l.length) (4294967295 ^^^ LE l) ^^^ n) e
    simpa [← Nat.xor_assoc] using this
  rw [show 8 * l.length = b + (8 * l.length - b) by omega, iter_add, iter_shift] at e2
  exact iter_ne _ h32 h0 e2

theorem mul_xor (k a b : Nat) : 2 ^ k * (a ^^^ b) = 2 ^ k * a ^^^ 2 ^ k * b := by
  rw [Nat.mul_comm, ← Nat.shiftLeft_eq, Nat.shiftLeft_xor_distrib, Nat.shiftLeft_eq, Nat.shiftLeft_eq, Nat.mul_comm a, Nat.mul_comm b]

theorem LE_set : ∀ (l : List UInt8) (j s : Nat), j < l.length → s < 8 → LE (l.set j (UInt8.ofNat ((l.getD j 0).toNat ^^^ 2 ^ s))) = LE l ^^^ 2 ^ (8 * j + s) := by
  intro l
  induction l with
  | nil => intro j s h; simp at h
  | cons x l ih =>
    intro j s h hs
    cases j with
    | zero =>
      have hp := pow_lt8 hs
      have hx : x.toNat ^^^ 2 ^ s < 2 ^ 8 := Nat.xor_lt_two_pow x.toNat_lt (by omega)
      rw [List.set_cons_zero, LE, LE, List.getD_cons_zero, UInt8.toNat_ofNat', Nat.mod_eq_of_lt hx, split_xor _ _ 8 hx, split_xor _ _ 8 x.toNat_lt, Nat.mul_zero, Nat.zero_add]
      ac_rfl
    | succ j =>
      rw [List.set_cons_succ, LE, LE, List.getD_cons_succ, ih j s (by simpa using h) hs, split_xor _ _ 8 x.toNat_lt, split_xor _ _ 8 x.toNat_lt, mul_xor, ← Nat.pow_add, show 8 * (j + 1) + s = 8 + (8 * j + s) by omega, Nat.xor_assoc]
theorem LE_flip (l : List UInt8) (i : Nat) (h : i < 8 * l.length) : LE (flip l i) = LE l ^^^ 2 ^ i := by
  unfold flip
  rw [LE_set l (i / 8) (i % 8) (by omega) (by omega), show 8 * (i / 8) + i % 8 = i by omega]

/-- The bits of a mask turned, the first k of them. -/
def turns (l : List UInt8) (first m : Nat) : Nat → List UInt8
  | 0 => l
  | k + 1 => if m / 2 ^ k % 2 = 1 then flip (turns l first m k) (first + k) else turns l first m k
theorem turns_length (l : List UInt8) (first m : Nat) : ∀ k, (turns l first m k).length = l.length := by
  intro k
  induction k with
  | zero => rfl
  | succ k ih => rw [turns]; split <;> simp [flip_length, ih]
theorem LE_turns (l : List UInt8) (first m : Nat) : ∀ k, first + k ≤ 8 * l.length → LE (turns l first m k) = LE l ^^^ (2 ^ first * (m % 2 ^ k)) := by
  intro k
  induction k with
  | zero => intro _; simp [turns, Nat.mod_one]
  | succ k ih =>
    intro h
    have h1 := ih (by omega)
    have hlt : m % 2 ^ k < 2 ^ k := Nat.mod_lt _ (Nat.two_pow_pos k)
    have hm : m % 2 ^ (k + 1) = m % 2 ^ k + 2 ^ k * (m / 2 ^ k % 2) := by rw [Nat.pow_succ, Nat.mod_mul]
    rw [hm, split_xor _ _ k hlt, mul_xor, ← Nat.xor_assoc, ← h1, turns]
    split
    · rename_i hb
      rw [LE_flip _ _ (by rw [turns_length]; omega), hb, Nat.mul_one, Nat.pow_add]
    · rename_i hb
      rw [show m / 2 ^ k % 2 = 0 by omega, Nat.mul_zero, Nat.mul_zero, Nat.xor_zero]

theorem flip_right (h l : List UInt8) (i : Nat) : flip (h ++ l) (8 * h.length + i) = h ++ flip l i := by
  unfold flip
  rw [show (8 * h.length + i) / 8 = h.length + i / 8 by omega, show (8 * h.length + i) % 8 = i % 8 by omega, List.set_append_right _ _ (by omega), Nat.add_sub_cancel_left,
    List.getD_eq_getElem?_getD, List.getElem?_append_right (by omega), Nat.add_sub_cancel_left, ← List.getD_eq_getElem?_getD]
theorem flip_left (l r : List UInt8) (i : Nat) (h : i < 8 * l.length) : flip (l ++ r) i = flip l i ++ r := by
  unfold flip
  rw [List.set_append_left _ _ (by omega), getD_append_left (by omega)]
theorem turns_right (h l : List UInt8) (b m : Nat) : ∀ k, turns (h ++ l) (8 * h.length + b) m k = h ++ turns l b m k := by
  intro k
  induction k with
  | zero => rfl
  | succ k ih => rw [turns, turns, ih, Nat.add_assoc, flip_right]; split <;> rfl
theorem turns_left (l r : List UInt8) (b m : Nat) : ∀ k, b + k ≤ 8 * l.length → turns (l ++ r) b m k = turns l b m k ++ r := by
  intro k
  induction k with
  | zero => intro _; rfl
  | succ k ih =>
    intro h
    rw [turns, turns, ih (by omega), flip_left _ _ _ (by rw [turns_length]; omega)]
    split <;> rfl

theorem ends_pay (p q : List UInt8) (h : p.length ≤ 131072) (hl : q.length = p.length) (hne : crc q ≠ crc p) : ends (headB p ++ q) = (0, 93) := by
  have F := framed p [] h
  rw [List.append_nil] at F
  have g : ∀ j, j < 12 → (headB p ++ q).getD j 0 = (frameB p).getD j 0 := fun j hj => by
    rw [getD_append_left (by rw [headB_length]; omega), frameB, getD_append_left (by rw [headB_length]; omega)]
  have hlen : (headB p ++ q).length = 12 + p.length := by rw [List.length_append, headB_length, hl]
  have hn : notIs (headB p ++ q) := by
    unfold notIs
    rw [g 2 (by omega), g 3 (by omega), g 4 (by omega), g 5 (by omega), g 6 (by omega), g 7 (by omega)]
    exact F.nots
  have hs : size3 (headB p ++ q) = p.length := by
    have := F.size
    unfold size3 at this ⊢
    rw [g 2 (by omega), g 3 (by omega), g 4 (by omega)]
    exact this
  have hb : body (headB p ++ q) = q := by
    unfold body
    rw [hs, List.drop_left' (headB_length p), ← hl, List.take_length]
  unfold ends
  rw [hlen, if_neg (by omega), g 0 (by omega), if_neg (fun c => c F.m0), if_neg (by omega), g 1 (by omega), if_neg (fun c => c F.m1), if_neg (by omega), if_neg (fun c => c hn), hs, if_neg (by omega), if_neg (by omega), hb, if_pos]
  intro hsum
  obtain ⟨s8, s9, s10, s11⟩ := F.sum
  obtain ⟨t8, t9, t10, t11⟩ := hsum
  rw [g 8 (by omega)] at t8
  rw [g 9 (by omega)] at t9
  rw [g 10 (by omega)] at t10
  rw [g 11 (by omega)] at t11
  exact hne (sum_inj (crc_lt _) (crc_lt _) (by omega) (by omega) (by omega) (by omega))

theorem ends_burst (p : List UInt8) (h : p.length ≤ 131072) (b m : Nat) (h0 : m ≠ 0) (h32 : m < 4294967296) (hb : b + 32 ≤ 8 * p.length) : ends (turns (frameB p) (96 + b) m 32) = (0, 93) := by
  rw [frameB, show 96 + b = 8 * (headB p).length + b by rw [headB_length], turns_right]
  refine ends_pay p _ h (turns_length _ _ _ _) ?_
  exact crc_burst p _ b m (turns_length _ _ _ _).symm (by rw [LE_turns _ _ _ _ hb, Nat.mod_eq_of_lt (by omega)]) h0 h32 (by omega)

theorem ends_sum (p s : List UInt8) (h : p.length ≤ 131072) (hl : s.length = 4) (hne : s ≠ (headB p).drop 8) : ends ((headB p).take 8 ++ s ++ p) = (0, 93) := by
  have F := framed p [] h
  rw [List.append_nil] at F
  obtain ⟨L, hL⟩ : ∃ L, L = (headB p).take 8 ++ s ++ p := ⟨_, rfl⟩
  rw [← hL]
  match s, hl with
  | [a, b, c, d], _ =>
    have hlen : L.length = 12 + p.length := by rw [hL]; simp [headB]; omega
    have g : ∀ j, j < 8 → L.getD j 0 = (frameB p).getD j 0 := fun j hj => by
      rw [hL, List.append_assoc, getD_append_left (by simp [headB]; omega), getD_take hj, frameB, getD_append_left (by rw [headB_length]; omega)]
    have hn : notIs L := by
      unfold notIs
      rw [g 2 (by omega), g 3 (by omega), g 4 (by omega), g 5 (by omega), g 6 (by omega), g 7 (by omega)]
      exact F.nots
    have hs : size3 L = p.length := by
      have := F.size
      unfold size3 at this ⊢
      rw [g 2 (by omega), g 3 (by omega), g 4 (by omega)]
      exact this
    have hb : body L = p := by
      unfold body
      rw [hs, hL, List.drop_left' (by simp [headB]), List.take_length]
    unfold ends
    rw [hlen, if_neg (by omega), g 0 (by omega), if_neg (fun c => c F.m0), if_neg (by omega), g 1 (by omega), if_neg (fun c => c F.m1), if_neg (by omega), if_neg (fun c => c hn), hs, if_neg (by omega), if_neg (by omega), hb, if_pos]
    intro hsum
    obtain ⟨t8, t9, t10, t11⟩ := hsum
    apply hne
    have e8 : L.getD 8 0 = a := by rw [hL]; rfl
    have e9 : L.getD 9 0 = b := by rw [hL]; rfl
    have e10 : L.getD 10 0 = c := by rw [hL]; rfl
    have e11 : L.getD 11 0 = d := by rw [hL]; rfl
    rw [e8] at t8
    rw [e9] at t9
    rw [e10] at t10
    rw [e11] at t11
    rw [ofNat_toNat a _ t8, ofNat_toNat b _ t9, ofNat_toNat c _ t10, ofNat_toNat d _ t11]
    rfl

theorem ends_sum_burst (p : List UInt8) (h : p.length ≤ 131072) (m : Nat) (h0 : m ≠ 0) (h32 : m < 4294967296) : ends (turns (frameB p) 64 m 32) = (0, 93) := by
  have hf : frameB p = (headB p).take 8 ++ ((headB p).drop 8 ++ p) := by rw [← List.append_assoc, List.take_append_drop]; rfl
  have h4 : ((headB p).drop 8).length = 4 := rfl
  rw [hf, show 64 = 8 * ((headB p).take 8).length + 0 from rfl, turns_right, turns_left _ _ _ _ _ (by rw [h4]; omega), ← List.append_assoc]
  refine ends_sum p _ h (by rw [turns_length, h4]) ?_
  intro e
  have h1 := LE_turns ((headB p).drop 8) 0 m 32 (by rw [h4]; omega)
  rw [e, Nat.mod_eq_of_lt (by omega), Nat.pow_zero, Nat.one_mul] at h1
  have : LE ((headB p).drop 8) ^^^ LE ((headB p).drop 8) = LE ((headB p).drop 8) ^^^ (LE ((headB p).drop 8) ^^^ m) := by rw [← h1]
  rw [Nat.xor_self, ← Nat.xor_assoc, Nat.xor_self, Nat.zero_xor] at this
  exact h0 this.symm
end Go.Proofs.YtooagpjfcnpheaaDoor
