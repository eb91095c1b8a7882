import Derived.Test.YtloccjkcmlkifaaDoorPCarx7
import Derived.Test.YtloccjkcmlkifaaDoorChkSpec
import Derived.Lib.QuoteBits
import Derived.Laws.BitsAllLaws
import Derived.Test.YtloccjkcmlkifaaDoorPCarx5
import Derived.Test.YtloccjkcmlkifaaDoorPCarx10
import Derived.Test.YtloccjkcmlkifaaDoorPCarx11
import Derived.Test.YtloccjkcmlkifaaDoorPCarx13
namespace Go.Proofs.YtloccjkcmlkifaaDoor
open Go.RowKit Go.Proofs.YtloccjkcmlkifaaDoor.PCar Go.Proofs.YtloccjkcmlkifaaDoorW.PrintWords

theorem wrap_id {n : Int} (h0 : -9223372036854775808 ≤ n) (h1 : n ≤ 9223372036854775807) : wrap64 n = n := by unfold wrap64; omega
def gb (s : ByteArray) (i : Nat) : Nat := (s.get! i).toNat
theorem gb_lt (s : ByteArray) (i : Nat) : gb s i < 256 := (s.get! i).toNat_lt
theorem bt_gb (s : ByteArray) (i : Nat) (h : i < s.size) : bt s (i : Int) = (gb s i : Int) := by
  unfold bt gb
  have : (i : Int).toNat = i := by omega
  rw [dif_pos (by omega)]
  have e : s.get! i = s[i]'h := by simp [ByteArray.get!, getElem!_pos, h]; rfl
  rw [e]
  congr 2
def contB (s : ByteArray) (pos j : Nat) : Bool := decide (pos + j < s.size) && (gb s (pos + j) / 64 == 2)

theorem seq_step {k : Nat} {s : ByteArray} {pos j : Nat} {n r least : Int} (hp : pos + j < 4611686018427387904) (hr : 0 ≤ r) (hr2 : r < 1099511627776) (hj : (j : Int) < n) :
    redraftref01_Sequence.l0 (k + 1) s pos n r least j = if contB s pos j then redraftref01_Sequence.l0 k s pos n (r * 64 + ((gb s (pos + j) % 64 : Nat) : Int)) least ((j + 1 : Nat) : Int) else some (0, 0) := by
  rw [redraftref01_Sequence.l0, if_pos hj]
  have w1 : wrap64 ((pos : Int) + (j : Int)) = ((pos + j : Nat) : Int) := by rw [wrap_id (by omega) (by omega)]; omega
  rw [w1]
  unfold contB
  by_cases hs : pos + j < s.size
  · rw [if_neg (by omega), if_pos (by omega), if_pos (by omega), bt_gb s _ hs]
    have hb := gb_lt s (pos + j)
    rw [wrap_id (n := (gb s (pos + j) : Int)) (by omega) (by omega)]
    have e1 : Int.tdiv (gb s (pos + j) : Int) 64 = ((gb s (pos + j) / 64 : Nat) : Int) := by rw [Int.tdiv_eq_ediv_of_nonneg (by omega)]; rfl
    have e2 : Int.tmod (gb s (pos + j) : Int) 64 = ((gb s (pos + j) % 64 : Nat) : Int) := by rw [Int.tmod_eq_emod_of_nonneg (by omega)]; rfl
    rw [e1, e2, wrap_id (n := ((gb s (pos + j) / 64 : Nat) : Int)) (by omega) (by omega)]
    by_cases h2 : gb s (pos + j) / 64 = 2
    · rw [if_pos (by omega), wrap_id (n := r * 64) (by omega) (by omega), wrap_id (by omega) (by omega), wrap_id (n := (j : Int) + 1) (by omega) (by omega)]
      simp [hs, h2]
    · rw [if_neg (by omega)]
      simp [hs, h2]
  · rw [if_pos (by omega)]
    simp [hs]
theorem seq_end {k : Nat} {s : ByteArray} {x n r least : Int} : redraftref01_Sequence.l0 (k + 1) s x n r least n = if r < least ∨ 1114111 < r ∨ (55296 ≤ r ∧ r ≤ 57343) then some (0, 0) else some (r, n) := by
  rw [redraftref01_Sequence.l0, if_neg (by omega)]
  by_cases h1 : r < least
  · simp [h1]
  · by_cases h2 : r > 1114111
    · simp [h1, h2]
    · by_cases h3 : r ≥ 55296
      · by_cases h4 : r ≤ 57343
        · simp [h1, h2, h3, h4]
        · simp [h1, h2, h3, h4]
      · simp [h1, h2, h3]

def seqR (s : ByteArray) (pos : Nat) : Int × Int :=
  let b := gb s pos
  if b < 128 then (b, 1)
  else if b / 32 = 6 then (if contB s pos 1 then (let r : Int := (b % 32 : Nat) * 64 + (gb s (pos + 1) % 64 : Nat); if r < 128 ∨ 1114111 < r ∨ (55296 ≤ r ∧ r ≤ 57343) then (0, 0) else (r, 2)) else (0, 0))
  else if b / 16 = 14 then (if contB s pos 1 then (if contB s pos 2 then (let r : Int := ((b % 16 : Nat) * 64 + (gb s (pos + 1) % 64 : Nat)) * 64 + (gb s (pos + 2) % 64 : Nat); if r < 2048 ∨ 1114111 < r ∨ (55296 ≤ r ∧ r ≤ 57343) then (0, 0) else (r, 3)) else (0, 0)) else (0, 0))
  else if b / 8 = 30 then (if contB s pos 1 then (if contB s pos 2 then (if contB s pos 3 then (let r : Int := (((b % 8 : Nat) * 64 + (gb s (pos + 1) % 64 : Nat)) * 64 + (gb s (pos + 2) % 64 : Nat)) * 64 + (gb s (pos + 3) % 64 : Nat); if r < 65536 ∨ 1114111 < r ∨ (55296 ≤ r ∧ r ≤ 57343) then (0, 0) else (r, 4)) else (0, 0)) else (0, 0)) else (0, 0))
  else (0, 0)

theorem seq_is (k : Nat) (s : ByteArray) (pos : Nat) (h : pos < s.size) (hs : s.size ≤ 140737488351232) : redraftref01_Sequence.f (k + 8) s pos = some (seqR s pos) := by
  unfold redraftref01_Sequence.f
  rw [if_neg (by omega), show decide ((pos : Int) ≥ (s.size : Int)) = false from decide_eq_false (by omega), redraftref01_Sequence.j0, if_neg (by simp), if_pos (by omega), if_pos (by omega), bt_gb s pos h]
  have hb := gb_lt s pos
  obtain ⟨b, hbb⟩ : ∃ b, b = gb s pos := ⟨_, rfl⟩
  rw [← hbb] at hb ⊢
  rw [wrap_id (n := (b : Int)) (by omega) (by omega)]
  have e1 : Int.tdiv (b : Int) 32 = ((b / 32 : Nat) : Int) := by rw [Int.tdiv_eq_ediv_of_nonneg (by omega)]; rfl
  have e2 : Int.tmod (b : Int) 32 = ((b % 32 : Nat) : Int) := by rw [Int.tmod_eq_emod_of_nonneg (by omega)]; rfl
  have e3 : Int.tdiv (b : Int) 16 = ((b / 16 : Nat) : Int) := by rw [Int.tdiv_eq_ediv_of_nonneg (by omega)]; rfl
  have e4 : Int.tmod (b : Int) 16 = ((b % 16 : Nat) : Int) := by rw [Int.tmod_eq_emod_of_nonneg (by omega)]; rfl
  have e5 : Int.tdiv (b : Int) 8 = ((b / 8 : Nat) : Int) := by rw [Int.tdiv_eq_ediv_of_nonneg (by omega)]; rfl
  have e6 : Int.tmod (b : Int) 8 = ((b % 8 : Nat) : Int) := by rw [Int.tmod_eq_emod_of_nonneg (by omega)]; rfl
  rw [e1, e2, e3, e4, e5, e6, wrap_id (n := ((b / 32 : Nat) : Int)) (by omega) (by omega), wrap_id (n := ((b / 16 : Nat) : Int)) (by omega) (by omega), wrap_id (n := ((b / 8 : Nat) : Int)) (by omega) (by omega)]
  unfold seqR
  rw [← hbb]
  simp only
  by_cases c0 : b < 128
  · rw [if_pos (by omega), if_pos c0]
  · rw [if_neg (by omega), if_neg c0]
    have g1 := gb_lt s (pos + 1); have g2 := gb_lt s (pos + 2); have g3 := gb_lt s (pos + 3)
    by_cases c1 : b / 32 = 6
    · rw [if_pos (by omega), if_pos c1, redraftref01_Sequence.j1, show (1 : Int) = ((1 : Nat) : Int) from rfl, seq_step (by omega) (by omega) (by omega) (by omega)]
      by_cases q1 : contB s pos 1 = true
      · rw [if_pos q1, if_pos q1, show (((1 + 1 : Nat)) : Int) = 2 from rfl, seq_end]
        split <;> rfl
      · rw [if_neg q1, if_neg q1]
    · rw [if_neg (by omega), if_neg c1]
      by_cases c2 : b / 16 = 14
      · rw [if_pos (by omega), if_pos c2, redraftref01_Sequence.j1, show (1 : Int) = ((1 : Nat) : Int) from rfl, seq_step (by omega) (by omega) (by omega) (by omega)]
        by_cases q1 : contB s pos 1 = true
        · rw [if_pos q1, if_pos q1, seq_step (by omega) (by omega) (by omega) (by omega)]
          by_cases q2 : contB s pos 2 = true
          · rw [if_pos q2, if_pos q2, show (((1 + 1 + 1 : Nat)) : Int) = 3 from rfl, seq_end]
            split <;> rfl
          · rw [if_neg q2, if_neg q2]
        · rw [if_neg q1, if_neg q1]
      · rw [if_neg (by omega), if_neg c2]
        by_cases c3 : b / 8 = 30
        · rw [if_pos (by omega), if_pos c3, redraftref01_Sequence.j1, show (1 : Int) = ((1 : Nat) : Int) from rfl, seq_step (by omega) (by omega) (by omega) (by omega)]
          by_cases q1 : contB s pos 1 = true
          · rw [if_pos q1, if_pos q1, seq_step (by omega) (by omega) (by omega) (by omega)]
            by_cases q2 : contB s pos 2 = true
            · rw [if_pos q2, if_pos q2, seq_step (by omega) (by omega) (by omega) (by omega)]
              by_cases q3 : contB s pos 3 = true
              · rw [if_pos q3, if_pos q3, show (((1 + 1 + 1 + 1 : Nat)) : Int) = 4 from rfl, seq_end]
                split <;> rfl
              · rw [if_neg q3, if_neg q3]
            · rw [if_neg q2, if_neg q2]
          · rw [if_neg q1, if_neg q1]
        · rw [if_neg (by omega), if_neg c3]
end Go.Proofs.YtloccjkcmlkifaaDoor

namespace Go.Proofs.YtloccjkcmlkifaaDoor
open Go.RowKit Go.Proofs.YtloccjkcmlkifaaDoor.PCar Go.Proofs.YtloccjkcmlkifaaDoorW.PrintWords

theorem gb_elem (s : ByteArray) (i : Nat) (h : i < s.size) : gb s i = (s[i]'h).toNat := by
  unfold gb
  have e : s.get! i = s[i]'h := by simp [ByteArray.get!, getElem!_pos, h]; rfl
  rw [e]

theorem okSeq_fffd (s : ByteArray) (pos : Nat) (hp : pos ≤ s.size) : okSeq s pos 65533 = true ↔ pos + 3 ≤ s.size ∧ gb s pos = 239 ∧ gb s (pos + 1) = 191 ∧ gb s (pos + 2) = 189 := by
  unfold okSeq
  rw [if_pos rfl]
  have hsz : (s.extract pos s.size).size = s.size - pos := by rw [ByteArray.size_extract]; omega
  rw [hsz]
  by_cases h3 : 3 ≤ s.size - pos
  · rw [if_pos h3]
    have e : ((s.extract pos s.size).extract 0 3).data = #[s[pos]'(by omega), s[pos + 1]'(by omega), s[pos + 2]'(by omega)] := by
      rw [ByteArray.data_extract, ByteArray.data_extract]
      apply Array.ext
      · simp; omega
      · intro i h1 h2
        simp only [List.size_toArray, List.length_cons, List.length_nil] at h2
        have : i = 0 ∨ i = 1 ∨ i = 2 := by omega
        rcases this with rfl | rfl | rfl <;> simp <;> rfl
    have e2 : ((s.extract pos s.size).extract 0 3).toList = [s[pos]'(by omega), s[pos + 1]'(by omega), s[pos + 2]'(by omega)] := by
      rw [ByteArray.toList_eq, e]
    have e3 : (⟨#[239, 191, 189]⟩ : ByteArray).toList = [239, 191, 189] := by rw [ByteArray.toList_eq]
    rw [e2, e3, gb_elem s pos (by omega), gb_elem s (pos + 1) (by omega), gb_elem s (pos + 2) (by omega)]
    simp only [beq_iff_eq, List.cons.injEq, and_true, ← UInt8.toNat_inj]
    constructor
    · rintro ⟨a, b, c⟩
      exact ⟨by omega, a, b, c⟩
    · rintro ⟨_, a, b, c⟩
      exact ⟨a, b, c⟩
  · rw [if_neg h3]
    constructor
    · intro h; cases h
    · rintro ⟨h, _⟩; omega
theorem okSeq_other (s : ByteArray) (pos : Nat) (c : Int) (h : c ≠ 65533) : okSeq s pos c = true := by unfold okSeq; rw [if_neg h]

theorem valid_iff (c : Nat) : Utf8.valid (c : Int) = true ↔ ¬ (1114111 < (c : Int) ∨ (55296 ≤ (c : Int) ∧ (c : Int) ≤ 57343)) := by
  unfold Utf8.valid
  simp only [Bool.or_eq_true, Bool.and_eq_true, decide_eq_true_eq]
  omega
set_option maxHeartbeats 2000000 in
theorem seq_decode (s : ByteArray) (pos : Nat) (h : pos < s.size) :
    (okSeq s pos (Utf8.decode s pos).1 = true ∧ seqR s pos = (((Utf8.decode s pos).1 : Int), ((Utf8.decode s pos).2 : Int)) ∧ 1 ≤ (Utf8.decode s pos).2 ∧ (Utf8.decode s pos).1 ≤ 1114111) ∨
    (okSeq s pos (Utf8.decode s pos).1 = false ∧ seqR s pos = (0, 0)) := by
  have hb := gb_lt s pos; have g1 := gb_lt s (pos + 1); have g2 := gb_lt s (pos + 2); have g3 := gb_lt s (pos + 3)
  have hF := okSeq_fffd s pos (by omega)
  have bad : ∀ q : Nat × Nat, q = (65533, 1) → Utf8.decode s pos = q → ¬ (pos + 3 ≤ s.size ∧ gb s pos = 239 ∧ gb s (pos + 1) = 191 ∧ gb s (pos + 2) = 189) → seqR s pos = (0, 0) →
      (okSeq s pos (Utf8.decode s pos).1 = true ∧ seqR s pos = (((Utf8.decode s pos).1 : Int), ((Utf8.decode s pos).2 : Int)) ∧ 1 ≤ (Utf8.decode s pos).2 ∧ (Utf8.decode s pos).1 ≤ 1114111) ∨
      (okSeq s pos (Utf8.decode s pos).1 = false ∧ seqR s pos = (0, 0)) := by
    intro q hq e hn hs
    right
    rw [e, hq]
    refine ⟨?_, hs⟩
    cases hh : okSeq s pos ((65533 : Nat) : Int) with
    | false => rfl
    | true => exact absurd (hF.1 hh) hn
  have good : ∀ c n : Nat, Utf8.decode s pos = (c, n) → seqR s pos = ((c : Int), (n : Int)) → 1 ≤ n → c ≤ 1114111 → (c = 65533 → pos + 3 ≤ s.size ∧ gb s pos = 239 ∧ gb s (pos + 1) = 191 ∧ gb s (pos + 2) = 189) →
      (okSeq s pos (Utf8.decode s pos).1 = true ∧ seqR s pos = (((Utf8.decode s pos).1 : Int), ((Utf8.decode s pos).2 : Int)) ∧ 1 ≤ (Utf8.decode s pos).2 ∧ (Utf8.decode s pos).1 ≤ 1114111) ∨
      (okSeq s pos (Utf8.decode s pos).1 = false ∧ seqR s pos = (0, 0)) := by
    intro c n e hs hn hc hf
    left
    rw [e]
    refine ⟨?_, hs, hn, hc⟩
    by_cases h5 : c = 65533
    · subst h5; exact hF.2 (hf rfl)
    · exact okSeq_other s pos _ (by show (c : Int) ≠ 65533; omega)
  have hd : Utf8.decode s pos = (if gb s pos < 128 then (gb s pos, 1)
    else if (gb s pos / 32 == 6 && contB s pos 1) = true then (if gb s pos % 32 * 64 + gb s (pos + 1) % 64 ≥ 128 then (gb s pos % 32 * 64 + gb s (pos + 1) % 64, 2) else (65533, 1))
    else if (gb s pos / 16 == 14 && contB s pos 1 && contB s pos 2) = true then (if (decide (gb s pos % 16 * 4096 + gb s (pos + 1) % 64 * 64 + gb s (pos + 2) % 64 ≥ 2048) && Utf8.valid ((gb s pos % 16 * 4096 + gb s (pos + 1) % 64 * 64 + gb s (pos + 2) % 64 : Nat) : Int)) = true then (gb s pos % 16 * 4096 + gb s (pos + 1) % 64 * 64 + gb s (pos + 2) % 64, 3) else (65533, 1))
    else if (gb s pos / 8 == 30 && contB s pos 1 && contB s pos 2 && contB s pos 3) = true then (if (decide (gb s pos % 8 * 262144 + gb s (pos + 1) % 64 * 4096 + gb s (pos + 2) % 64 * 64 + gb s (pos + 3) % 64 ≥ 65536) && Utf8.valid ((gb s pos % 8 * 262144 + gb s (pos + 1) % 64 * 4096 + gb s (pos + 2) % 64 * 64 + gb s (pos + 3) % 64 : Nat) : Int)) = true then (gb s pos % 8 * 262144 + gb s (pos + 1) % 64 * 4096 + gb s (pos + 2) % 64 * 64 + gb s (pos + 3) % 64, 4) else (65533, 1))
    else (65533, 1)) := rfl
  by_cases c0 : gb s pos < 128
  · refine good _ _ (by rw [hd, if_pos c0]) ?_ (Nat.le_refl _) (by omega) (by omega)
    unfold seqR
    simp only
    rw [if_pos c0]
    rfl
  · have hs := Eq.refl (seqR s pos)
    conv at hs => rhs; unfold seqR
    simp only at hs
    rw [if_neg c0] at hs hd
    by_cases c1 : gb s pos / 32 = 6
    · have n14 : ¬ gb s pos / 16 = 14 := by omega
      have n30 : ¬ gb s pos / 8 = 30 := by omega
      have q14 : (gb s pos / 16 == 14) = false := beq_false_of_ne n14
      have q30 : (gb s pos / 8 == 30) = false := beq_false_of_ne n30
      have q6 : (gb s pos / 32 == 6) = true := beq_iff_eq.2 c1
      rw [if_pos c1] at hs
      rw [q6, q14, q30] at hd
      by_cases t1 : contB s pos 1 = true
      · rw [t1] at hd hs
        simp only [Bool.and_self, if_true] at hd hs
        by_cases l1 : gb s pos % 32 * 64 + gb s (pos + 1) % 64 ≥ 128
        · rw [if_pos l1] at hd
          rw [if_neg (by omega)] at hs
          exact good _ _ hd (by rw [hs]; refine Prod.ext ?_ rfl; show (_ : Int) = _; omega) (by omega) (by omega) (by omega)
        · rw [if_neg l1] at hd
          rw [if_pos (by omega)] at hs
          exact bad _ rfl hd (by omega) hs
      · rw [Bool.not_eq_true] at t1
        rw [t1] at hd hs
        simp only [Bool.and_false, Bool.false_and, Bool.false_eq_true, if_false] at hd hs
        exact bad _ rfl hd (by omega) hs
    · have q6 : (gb s pos / 32 == 6) = false := beq_false_of_ne c1
      rw [if_neg c1] at hs
      rw [q6] at hd
      simp only [Bool.false_and, Bool.false_eq_true, if_false] at hd
      by_cases c2 : gb s pos / 16 = 14
      · have n30 : ¬ gb s pos / 8 = 30 := by omega
        have q14 : (gb s pos / 16 == 14) = true := beq_iff_eq.2 c2
        have q30 : (gb s pos / 8 == 30) = false := beq_false_of_ne n30
        rw [if_pos c2] at hs
        rw [q14, q30] at hd
        by_cases t1 : contB s pos 1 = true
        · by_cases t2 : contB s pos 2 = true
          · rw [t1, t2] at hd hs
            simp only [Bool.and_self, if_true] at hd hs
            have p2 : pos + 2 < s.size ∧ gb s (pos + 2) / 64 = 2 := by simpa [contB] using t2
            have p1 : pos + 1 < s.size ∧ gb s (pos + 1) / 64 = 2 := by simpa [contB] using t1
            by_cases l1 : 2048 ≤ gb s pos % 16 * 4096 + gb s (pos + 1) % 64 * 64 + gb s (pos + 2) % 64 ∧ Utf8.valid ((gb s pos % 16 * 4096 + gb s (pos + 1) % 64 * 64 + gb s (pos + 2) % 64 : Nat) : Int) = true
            · have hv := (valid_iff _).1 l1.2
              rw [if_pos (by simp only [Bool.and_eq_true, decide_eq_true_eq]; exact l1)] at hd
              rw [if_neg (by omega)] at hs
              exact good _ _ hd (by rw [hs]; refine Prod.ext ?_ rfl; show (_ : Int) = _; omega) (by omega) (by omega) (by omega)
            · rw [if_neg (by simp only [Bool.and_eq_true, decide_eq_true_eq]; exact l1)] at hd
              rw [valid_iff] at l1
              rw [if_pos (by omega)] at hs
              exact bad _ rfl hd (by omega) hs
          · rw [Bool.not_eq_true] at t2
            rw [t1, t2] at hd hs
            simp only [Bool.and_false, Bool.and_true, Bool.false_and, Bool.false_eq_true, if_false, if_true] at hd hs
            refine bad _ rfl hd (fun hx => ?_) hs
            have : contB s pos 2 = true := by unfold contB; simp only [Bool.and_eq_true, decide_eq_true_eq, beq_iff_eq]; omega
            rw [this] at t2; cases t2
        · rw [Bool.not_eq_true] at t1
          rw [t1] at hd hs
          simp only [Bool.and_false, Bool.false_and, Bool.false_eq_true, if_false] at hd hs
          refine bad _ rfl hd (fun hx => ?_) hs
          have : contB s pos 1 = true := by unfold contB; simp only [Bool.and_eq_true, decide_eq_true_eq, beq_iff_eq]; omega
          rw [this] at t1; cases t1
      · have q14 : (gb s pos / 16 == 14) = false := beq_false_of_ne c2
        rw [if_neg c2] at hs
        rw [q14] at hd
        simp only [Bool.false_and, Bool.false_eq_true, if_false] at hd
        by_cases c3 : gb s pos / 8 = 30
        · have q30 : (gb s pos / 8 == 30) = true := beq_iff_eq.2 c3
          rw [if_pos c3] at hs
          rw [q30] at hd
          by_cases t1 : contB s pos 1 = true
          · by_cases t2 : contB s pos 2 = true
            · by_cases t3 : contB s pos 3 = true
              · rw [t1, t2, t3] at hd hs
                simp only [Bool.and_self, if_true] at hd hs
                by_cases l1 : 65536 ≤ gb s pos % 8 * 262144 + gb s (pos + 1) % 64 * 4096 + gb s (pos + 2) % 64 * 64 + gb s (pos + 3) % 64 ∧ Utf8.valid ((gb s pos % 8 * 262144 + gb s (pos + 1) % 64 * 4096 + gb s (pos + 2) % 64 * 64 + gb s (pos + 3) % 64 : Nat) : Int) = true
                · have hv := (valid_iff _).1 l1.2
                  rw [if_pos (by simp only [Bool.and_eq_true, decide_eq_true_eq]; exact l1)] at hd
                  rw [if_neg (by omega)] at hs
                  exact good _ _ hd (by rw [hs]; refine Prod.ext ?_ rfl; show (_ : Int) = _; omega) (by omega) (by omega) (by omega)
                · rw [if_neg (by simp only [Bool.and_eq_true, decide_eq_true_eq]; exact l1)] at hd
                  rw [valid_iff] at l1
                  rw [if_pos (by omega)] at hs
                  exact bad _ rfl hd (by omega) hs
              · rw [Bool.not_eq_true] at t3
                rw [t1, t2, t3] at hd hs
                simp only [Bool.and_false, Bool.and_true, Bool.false_eq_true, if_false, if_true] at hd hs
                exact bad _ rfl hd (by omega) hs
            · rw [Bool.not_eq_true] at t2
              rw [t1, t2] at hd hs
              simp only [Bool.and_false, Bool.and_true, Bool.false_and, Bool.false_eq_true, if_false, if_true] at hd hs
              exact bad _ rfl hd (by omega) hs
          · rw [Bool.not_eq_true] at t1
            rw [t1] at hd hs
            simp only [Bool.and_false, Bool.false_and, Bool.false_eq_true, if_false] at hd hs
            exact bad _ rfl hd (by omega) hs
        · have q30 : (gb s pos / 8 == 30) = false := beq_false_of_ne c3
          rw [if_neg c3] at hs
          rw [q30] at hd
          simp only [Bool.false_and, Bool.false_eq_true, if_false] at hd
          exact bad _ rfl hd (by omega) hs

theorem and_i32_nat (x y : Nat) (hx : x < 2147483648) (hy : y < 2147483648) : Go.bits .and .i32 (x : Int) (y : Int) = ((x &&& y : Nat) : Int) := by
  show IntKind.i32.wrap ((BitVec.ofInt 32 (x : Int) &&& BitVec.ofInt 32 (y : Int)).toNat : Int) = _
  rw [BitVec.toNat_and, ofInt_u32 x (by omega), ofInt_u32 y (by omega)]
  exact Lib.wrap_i32_small _ (Nat.lt_of_le_of_lt Nat.and_le_left hx)
theorem and65535_i32 (x : Nat) (h : x < 2147483648) : Go.bits .and .i32 (x : Int) 65535 = ((x % 65536 : Nat) : Int) := by
  obtain ⟨m, hm⟩ : ∃ m : Nat, m = 65535 := ⟨_, rfl⟩
  have e : (65535 : Int) = (m : Int) := by omega
  have h2 : x &&& m = x % 65536 := by
    rw [hm]
    have := Nat.and_two_pow_sub_one_eq_mod x 16
    simpa using this
  rw [e, and_i32_nat x m h (by omega), h2]
theorem okRune_is (c : Nat) (h : c ≤ 1114111) : okRune (c : Int) = (decide (c = 9 ∨ c = 10 ∨ ¬ (c < 32 ∨ (127 ≤ c ∧ c < 160) ∨ c = 65279 ∨ (64976 ≤ c ∧ c ≤ 65007))) && decide (c % 65536 < 65534)) := by
  unfold okRune barsL
  rw [and65535_i32 c (by omega)]
  have e : decide (((c % 65536 : Nat) : Int) < 65534) = decide (c % 65536 < 65534) := by
    rw [Bool.eq_iff_iff]; simp only [decide_eq_true_eq]; omega
  rw [e]
  generalize decide (c % 65536 < 65534) = d
  refine congrArg (fun b => b && d) ?_
  simp only [List.all_cons, List.all_nil, Bool.and_true]
  rw [Bool.eq_iff_iff]
  simp only [Bool.and_eq_true, Bool.not_eq_true', Bool.and_eq_false_iff, decide_eq_true_eq, decide_eq_false_iff_not]
  omega
theorem letIn_is (k c : Nat) (h : c ≤ 1114111) : redraftref01_LetIn.f (k + 1) (c : Int) = some (okRune (c : Int)) := by
  rw [okRune_is c h]
  have e : Int.tmod (c : Int) 65536 = ((c % 65536 : Nat) : Int) := by rw [Int.tmod_eq_emod_of_nonneg (by omega)]; rfl
  have e2 : decide (((c % 65536 : Nat) : Int) < 65534) = decide (c % 65536 < 65534) := by
    rw [Bool.eq_iff_iff]; simp only [decide_eq_true_eq]; omega
  unfold redraftref01_LetIn.f
  by_cases c9 : c = 9
  · subst c9; rfl
  · rw [if_neg (by omega), redraftref01_LetIn.j0]
    by_cases c10 : c = 10
    · subst c10; rfl
    · rw [if_neg (by simp; omega), e, e2]
      by_cases a1 : c < 32
      · rw [if_pos (by omega)]; simp [a1, c9, c10]
      · rw [if_neg (by omega)]
        by_cases a2 : 127 ≤ c
        · rw [if_pos (by omega)]
          by_cases a3 : c < 160
          · rw [if_pos (by omega)]; simp [a1, a2, a3, c9, c10]
          · rw [if_neg (by omega)]
            by_cases a4 : c = 65279
            · subst a4; rfl
            · rw [if_neg (by omega)]
              by_cases a5 : 64976 ≤ c
              · rw [if_pos (by omega)]
                by_cases a6 : c ≤ 65007
                · rw [if_pos (by omega)]; simp [a1, a2, a3, a4, a5, a6, c9, c10]
                · rw [if_neg (by omega)]; simp [a1, a3, a4, a6]
              · rw [if_neg (by omega)]; simp [a1, a3, a4, a5]
        · rw [if_neg (by omega), if_neg (by omega), if_neg (by omega)]
          have : ¬ 64976 ≤ c := by omega
          have : ¬ c = 65279 := by omega
          simp [*]
end Go.Proofs.YtloccjkcmlkifaaDoor

namespace Go.Proofs.YtloccjkcmlkifaaDoor
open Go.RowKit Go.Proofs.YtloccjkcmlkifaaDoor.PCar Go.Proofs.YtloccjkcmlkifaaDoorW.PrintWords

theorem decode_four (s : ByteArray) (pos : Nat) : (Utf8.decode s pos).2 ≤ 4 := by
  simp only [Utf8.decode]
  repeat' split
  all_goals simp
theorem chk_succ (s : ByteArray) (f pos : Nat) (n : Int) (h : pos < s.size) : chkFrom s (f + 1) pos n = if okSeq s pos (Utf8.decode s pos).1 then (if okRune (Utf8.decode s pos).1 then chkFrom s f (pos + (Utf8.decode s pos).2) (wrap64 (n + 1)) else (0, pos, 11)) else (0, pos, 10) := by
  rw [chkFrom, if_pos h]

theorem runes_loop (s : ByteArray) (hs : s.size ≤ 1048576) : ∀ (d k pos f : Nat) (acc : List Int), s.size - pos ≤ d → pos ≤ s.size + 4 → s.size - pos ≤ f → acc.length ≤ pos → d + 9 ≤ k →
    ∃ l p e, redraftref01_Runes.l0 k s acc pos = some (l, p, e) ∧ ((l.length : Int), p, e) = chkFrom s f pos acc.length := by
  intro d
  induction d with
  | zero =>
    intro k pos f acc h1 h2 h3 h4 hk
    obtain ⟨k, rfl⟩ : ∃ m, k = m + 1 := ⟨k - 1, by omega⟩
    refine ⟨acc, 0, 0, ?_, by rw [chk_end s f pos _ (by omega)]⟩
    rw [redraftref01_Runes.l0, if_neg (by omega)]
  | succ d ih =>
    intro k pos f acc h1 h2 h3 h4 hk
    obtain ⟨k, rfl⟩ : ∃ m, k = m + 9 := ⟨k - 9, by omega⟩
    by_cases hp : pos < s.size
    · obtain ⟨f, rfl⟩ : ∃ m, f = m + 1 := ⟨f - 1, by omega⟩
      rw [chk_succ s f pos _ hp]
      rw [show k + 9 = (k + 8) + 1 from rfl, redraftref01_Runes.l0, if_pos (by omega), seq_is k s pos hp (by omega)]
      simp only [Option.bind_some]
      have h5 := decode_four s pos
      rcases seq_decode s pos hp with ⟨hok, hq, hn, hc⟩ | ⟨hok, hq⟩
      · rw [hok, hq]
        simp only [if_true]
        rw [if_neg (by omega), show k + 8 = (k + 7) + 1 from rfl, letIn_is (k + 7) _ hc]
        simp only [Option.bind_some]
        by_cases hr : okRune ((Utf8.decode s pos).1 : Int) = true
        · rw [hr]
          simp only [if_true]
          have w1 : wrap64 ((pos : Int) + ((Utf8.decode s pos).2 : Int)) = ((pos + (Utf8.decode s pos).2 : Nat) : Int) := by rw [wrap_id (by omega) (by omega)]; omega
          have w2 : wrap64 ((acc.length : Int) + 1) = (((acc ++ [((Utf8.decode s pos).1 : Int)]).length : Nat) : Int) := by rw [wrap_id (by omega) (by omega), List.length_append, List.length_singleton]; omega
          rw [if_pos (by omega), w1, w2]
          exact ih (k + 7 + 1) _ f _ (by omega) (by omega) (by omega) (by rw [List.length_append, List.length_singleton]; omega) (by omega)
        · rw [Bool.not_eq_true] at hr
          rw [hr]
          simp only [Bool.false_eq_true, if_false]
          exact ⟨[], _, 11, rfl, rfl⟩
      · rw [hok, hq]
        simp only [if_true, Bool.false_eq_true, if_false]
        exact ⟨[], _, 10, rfl, rfl⟩
    · refine ⟨acc, 0, 0, ?_, by rw [chk_end s f pos _ (by omega)]⟩
      rw [show k + 9 = (k + 8) + 1 from rfl, redraftref01_Runes.l0, if_neg (by omega)]

def chk (s : ByteArray) : Int × Int × Int := chkFrom s s.size 0 0
theorem ref_chk (s : ByteArray) (hs : s.size ≤ 1048576) : Ev (fun k => redraftref01_Check.f k s) (chk s) := by
  refine ⟨s.size + 9, fun k hk => ?_⟩
  obtain ⟨l, p, e, h1, h2⟩ := runes_loop s hs s.size k 0 s.size [] (by omega) (by omega) (by omega) (by simp) hk
  simp only [redraftref01_Check.f, redraftref01_Runes.f]
  have h3 : redraftref01_Runes.l0 k s [] 0 = some (l, p, e) := h1
  rw [h3]
  simp only [Option.bind_some]
  rw [h2]
  rfl
theorem chk_f (s : ByteArray) : utext_Check.f s = some (chk s) := rfl

theorem chk_bound (s : ByteArray) (hs : s.size ≤ 1048576) : 0 ≤ (chk s).1 ∧ (chk s).1 ≤ s.size := by
  have : ∀ (f pos : Nat) (n : Int), 0 ≤ n → n ≤ pos → pos + f ≤ s.size → 0 ≤ (chkFrom s f pos n).1 ∧ (chkFrom s f pos n).1 ≤ s.size := by
    intro f
    induction f with
    | zero => intro pos n h0 h1 h2; exact ⟨h0, by show n ≤ _; omega⟩
    | succ f ih =>
      intro pos n h0 h1 h2
      rw [chk_succ s f pos n (by omega)]
      split
      · split
        · have hw := width_pos s pos (by omega)
          have h5 := decode_four s pos
          by_cases hp : pos + (Utf8.decode s pos).2 + f ≤ s.size
          · exact ih _ _ (by rw [wrap_id (by omega) (by omega)]; omega) (by rw [wrap_id (by omega) (by omega)]; omega) hp
          · -- fewer rounds than bytes are left: the end comes first
            have key : ∀ (g q : Nat) (m : Int), 0 ≤ m → m + g ≤ s.size → 0 ≤ (chkFrom s g q m).1 ∧ (chkFrom s g q m).1 ≤ s.size := by
              intro g
              induction g with
              | zero => intro q m h0 h1; exact ⟨h0, by show m ≤ _; omega⟩
              | succ g ih2 =>
                intro q m h0 h1
                by_cases hq : q < s.size
                · rw [chk_succ s g q m hq]
                  split
                  · split
                    · exact ih2 _ _ (by rw [wrap_id (by omega) (by omega)]; omega) (by rw [wrap_id (by omega) (by omega)]; omega)
                    · exact ⟨Int.le_refl _, by show (0 : Int) ≤ _; omega⟩
                  · exact ⟨Int.le_refl _, by show (0 : Int) ≤ _; omega⟩
                · rw [chk_end s _ q m hq]; exact ⟨h0, by show m ≤ _; omega⟩
            exact key f _ _ (by rw [wrap_id (by omega) (by omega)]; omega) (by rw [wrap_id (by omega) (by omega)]; omega)
        · exact ⟨Int.le_refl _, by show (0 : Int) ≤ _; omega⟩
      · exact ⟨Int.le_refl _, by show (0 : Int) ≤ _; omega⟩
  exact this s.size 0 0 (by omega) (by omega) (by omega)
end Go.Proofs.YtloccjkcmlkifaaDoor

namespace Go.Proofs.YtloccjkcmlkifaaDoor
open Go.RowKit Go.Proofs.YtloccjkcmlkifaaDoor.PCar Go.Proofs.YtloccjkcmlkifaaDoorW.PrintWords

def rngFrom (l : List S94) : Nat → Nat → Int × Int
  | 0, _ => (0, 0)
  | d + 1, i => if i < l.length then (if (l.getD i z94).f0 < 0 ∨ 1048576 < (l.getD i z94).f1 ∨ (l.getD i z94).f1 ≤ (l.getD i z94).f0 then ((i : Int), 20) else if 0 < i ∧ (l.getD i z94).f0 ≤ (l.getD (i - 1) z94).f1 then ((i : Int), 22) else rngFrom l d (i + 1)) else (0, 0)
def rngE (l : List S94) : Int × Int := if 32768 < l.length then (32768, 21) else rngFrom l l.length 0

theorem span_loop (l : List S94) (hl : l.length ≤ 32768) : ∀ (d k i : Nat), l.length - i ≤ d → i ≤ l.length → 2 * d + 2 ≤ k → span_Check.l0 k l l (l.length : Int) (i : Int) = some (rngFrom l d i) := by
  intro d
  induction d with
  | zero =>
    intro k i h1 h2 hk
    obtain ⟨k, rfl⟩ : ∃ m, k = m + 1 := ⟨k - 1, by omega⟩
    rw [span_Check.l0, if_neg (by omega)]
    rfl
  | succ d ih =>
    intro k i h1 h2 hk
    obtain ⟨k, rfl⟩ : ∃ m, k = m + 2 := ⟨k - 2, by omega⟩
    rw [show k + 2 = (k + 1) + 1 from rfl, span_Check.l0, rngFrom]
    have e : rd_T94 l (i : Int) = l.getD i z94 := by unfold rd_T94; rw [Int.toNat_natCast]
    by_cases hi : i < l.length
    · rw [if_pos (by omega), if_pos (by omega), if_pos (by omega), if_pos hi, e]
      by_cases c1 : (l.getD i z94).f0 < 0
      · rw [if_pos c1, if_pos (.inl c1), span_Check.j1, if_pos rfl]
      · rw [if_neg c1]
        by_cases c2 : (l.getD i z94).f1 > 1048576
        · rw [if_pos c2, if_pos (.inr (.inl c2)), span_Check.j1, if_pos rfl]
        · rw [if_neg c2, span_Check.j1]
          by_cases c3 : (l.getD i z94).f0 ≥ (l.getD i z94).f1
          · rw [if_pos (decide_eq_true c3), if_pos (.inr (.inr c3))]
          · rw [if_neg (by rw [decide_eq_false c3]; simp), if_neg (show ¬ ((l.getD i z94).f0 < 0 ∨ 1048576 < (l.getD i z94).f1 ∨ (l.getD i z94).f1 ≤ (l.getD i z94).f0) by omega)]
            have w1 : wrap64 ((i : Int) + 1) = ((i + 1 : Nat) : Int) := by rw [wrap_id (by omega) (by omega)]; omega
            rw [w1, ih k (i + 1) (by omega) (by omega) (by omega)]
            by_cases c4 : 0 < i
            · have w2 : wrap64 ((i : Int) - 1) = ((i - 1 : Nat) : Int) := by rw [wrap_id (by omega) (by omega)]; omega
              have e2 : rd_T94 l ((i - 1 : Nat) : Int) = l.getD (i - 1) z94 := by unfold rd_T94; rw [Int.toNat_natCast]
              rw [if_pos (by omega), w2, if_pos (by omega), if_pos (by omega), e2]
              by_cases c5 : (l.getD i z94).f0 ≤ (l.getD (i - 1) z94).f1
              · rw [if_pos c5, if_pos ⟨c4, c5⟩]
              · rw [if_neg c5, if_neg (fun h => c5 h.2)]
            · rw [if_neg (by omega), if_neg (fun h => c4 h.1)]
    · rw [if_neg (by omega), if_neg hi]
theorem span_chk (l : List S94) : Ev (fun k => span_Check.f k l) (rngE l) := by
  refine ⟨2 * l.length + 2, fun k hk => ?_⟩
  simp only [span_Check.f, rngE]
  by_cases h : 32768 < l.length
  · rw [if_pos (by omega), if_pos h]
  · rw [if_neg (by omega), if_neg h]
    exact span_loop l (by omega) l.length k 0 (by omega) (by omega) hk

theorem ref_rng_loop (l : List S94) (hl : l.length ≤ 32768) : ∀ (d k i : Nat), l.length - i ≤ d → i ≤ l.length → 2 * d + 2 ≤ k → redraftref02_Check.l0 k l (i : Int) = some (rngFrom l d i) := by
  intro d
  induction d with
  | zero =>
    intro k i h1 h2 hk
    obtain ⟨k, rfl⟩ : ∃ m, k = m + 1 := ⟨k - 1, by omega⟩
    rw [redraftref02_Check.l0, if_neg (by omega)]
    rfl
  | succ d ih =>
    intro k i h1 h2 hk
    obtain ⟨k, rfl⟩ : ∃ m, k = m + 2 := ⟨k - 2, by omega⟩
    rw [show k + 2 = (k + 1) + 1 from rfl, redraftref02_Check.l0, rngFrom]
    have e : rd_T94 l (i : Int) = l.getD i z94 := by unfold rd_T94; rw [Int.toNat_natCast]
    by_cases hi : i < l.length
    · rw [if_pos (by omega), if_pos (by omega), if_pos hi, e]
      by_cases c1 : (l.getD i z94).f0 < 0
      · rw [if_pos c1, if_pos (.inl c1), redraftref02_Check.j1, if_pos rfl]
      · rw [if_neg c1]
        by_cases c2 : (l.getD i z94).f1 > 1048576
        · rw [if_pos c2, if_pos (.inr (.inl c2)), redraftref02_Check.j1, if_pos rfl]
        · rw [if_neg c2, redraftref02_Check.j1]
          by_cases c3 : (l.getD i z94).f0 ≥ (l.getD i z94).f1
          · rw [if_pos (decide_eq_true c3), if_pos (.inr (.inr c3))]
          · rw [if_neg (by rw [decide_eq_false c3]; simp), if_neg (show ¬ ((l.getD i z94).f0 < 0 ∨ 1048576 < (l.getD i z94).f1 ∨ (l.getD i z94).f1 ≤ (l.getD i z94).f0) by omega)]
            have w1 : wrap64 ((i : Int) + 1) = ((i + 1 : Nat) : Int) := by rw [wrap_id (by omega) (by omega)]; omega
            rw [w1, ih k (i + 1) (by omega) (by omega) (by omega)]
            by_cases c4 : 0 < i
            · have w2 : wrap64 ((i : Int) - 1) = ((i - 1 : Nat) : Int) := by rw [wrap_id (by omega) (by omega)]; omega
              have e2 : rd_T94 l ((i - 1 : Nat) : Int) = l.getD (i - 1) z94 := by unfold rd_T94; rw [Int.toNat_natCast]
              rw [if_pos (by omega), if_pos (by omega), if_pos (by omega), w2, if_pos (by omega), if_pos (by omega), e2, e]
              by_cases c5 : (l.getD i z94).f0 ≤ (l.getD (i - 1) z94).f1
              · rw [if_pos c5, if_pos ⟨c4, c5⟩]
              · rw [if_neg c5, if_neg (fun h => c5 h.2)]
            · rw [if_neg (by omega), if_neg (fun h => c4 h.1)]
    · rw [if_neg (by omega), if_neg hi]
theorem ref_rng (l : List S94) : Ev (fun k => redraftref02_Check.f k l) (rngE l) := by
  refine ⟨2 * l.length + 2, fun k hk => ?_⟩
  simp only [redraftref02_Check.f, rngE]
  by_cases h : 32768 < l.length
  · rw [if_pos (by omega), if_pos h]
  · rw [if_neg (by omega), if_neg h]
    exact ref_rng_loop l (by omega) l.length k 0 (by omega) (by omega) hk

def isID (a b : Int) : Bool := decide (1 ≤ a ∧ a ≤ 8 ∧ 1 ≤ b ∧ b ≤ 1024)
theorem right_is (a b : Int) : op_right.f a b = some (isID a b) := by
  unfold op_right.f isID
  by_cases h1 : 1 ≤ a <;> by_cases h2 : a ≤ 8 <;> by_cases h3 : 1 ≤ b <;> by_cases h4 : b ≤ 1024 <;> simp [h1, h2, h3, h4]
theorem isID_is (a b : Int) : redraftref04_IsID.f a b = some (isID a b) := right_is a b
theorem none_is (a b : Int) : redraftref04_none.f a b = some (decide (a = 0 ∧ b = 0)) := by
  unfold redraftref04_none.f
  by_cases h1 : a = 0 <;> by_cases h2 : b = 0 <;> simp [h1, h2]

def extraB (o : S41) : Bool := decide ((o.f0.f1 ≠ 1 ∧ (o.f1 ≠ 0 ∨ o.f2.toList ≠ [])) ∨ (o.f0.f1 ≠ 2 ∧ o.f0.f1 ≠ 3 ∧ o.f3.length ≠ 0) ∨ (o.f0.f1 ≠ 4 ∧ (o.f4.f0 ≠ 0 ∨ o.f4.f1 ≠ 0 ∨ o.f5 = true)))
theorem extra_is (o : S41) : op_extra.f o.f0.f0.f0 o.f0.f0.f1 o.f0.f1 o.f1 o.f2 o.f3 o.f4.f0 o.f4.f1 o.f5 = some (extraB o) := by
  obtain ⟨⟨⟨a, b⟩, kd⟩, at', tx, rg, ⟨t0, t1⟩, on⟩ := o
  unfold op_extra.f extraB
  simp only
  by_cases k1 : kd = 1
  · subst k1
    by_cases r : rg.length = 0 <;> by_cases h0 : t0 = 0 <;> by_cases h1 : t1 = 0 <;> cases on <;> simp_all <;> omega
  · by_cases k2 : kd = 2
    · subst k2
      by_cases p : at' = 0 <;> by_cases q : tx.toList = [] <;> by_cases h0 : t0 = 0 <;> by_cases h1 : t1 = 0 <;> cases on <;> simp_all
    · by_cases k3 : kd = 3
      · subst k3
        by_cases p : at' = 0 <;> by_cases q : tx.toList = [] <;> by_cases h0 : t0 = 0 <;> by_cases h1 : t1 = 0 <;> cases on <;> simp_all
      · by_cases k4 : kd = 4
        · subst k4
          by_cases p : at' = 0 <;> by_cases q : tx.toList = [] <;> by_cases r : rg.length = 0 <;> simp_all <;> omega
        · by_cases p : at' = 0 <;> by_cases q : tx.toList = [] <;> by_cases r : rg.length = 0 <;> by_cases h0 : t0 = 0 <;> by_cases h1 : t1 = 0 <;> cases on <;> simp_all <;> omega

theorem rextra_is (o : S41) (hk : 1 ≤ o.f0.f1 ∧ o.f0.f1 ≤ 4) : redraftref04_extra.f o.f0.f0.f0 o.f0.f0.f1 o.f0.f1 o.f1 o.f2 o.f3 o.f4.f0 o.f4.f1 o.f5 = some (extraB o) := by
  obtain ⟨⟨⟨a, b⟩, kd⟩, at', tx, rg, ⟨t0, t1⟩, on⟩ := o
  unfold redraftref04_extra.f extraB
  simp only at hk ⊢
  have : kd = 1 ∨ kd = 2 ∨ kd = 3 ∨ kd = 4 := by omega
  have hr : ¬ rg.length = 0 → (rg.length : Int) > 0 := fun h => by omega
  rcases this with rfl | rfl | rfl | rfl
  · by_cases r : rg.length = 0
    · obtain rfl : rg = [] := List.eq_nil_of_length_eq_zero r
      by_cases p : at' = 0 <;> by_cases h0 : t0 = 0 <;> by_cases h1 : t1 = 0 <;> cases on <;> simp_all
    · have h := hr r
      by_cases p : at' = 0 <;> by_cases h0 : t0 = 0 <;> by_cases h1 : t1 = 0 <;> cases on <;> simp_all
  · by_cases p : at' = 0 <;> by_cases q : tx.toList = [] <;> by_cases h0 : t0 = 0 <;> by_cases h1 : t1 = 0 <;> cases on <;> simp_all
  · by_cases p : at' = 0 <;> by_cases q : tx.toList = [] <;> by_cases h0 : t0 = 0 <;> by_cases h1 : t1 = 0 <;> cases on <;> simp_all
  · by_cases r : rg.length = 0
    · obtain rfl : rg = [] := List.eq_nil_of_length_eq_zero r
      by_cases p : at' = 0 <;> by_cases q : tx.toList = [] <;> by_cases h0 : t0 = 0 <;> by_cases h1 : t1 = 0 <;> simp_all
    · have h := hr r
      by_cases p : at' = 0 <;> by_cases q : tx.toList = [] <;> by_cases h0 : t0 = 0 <;> by_cases h1 : t1 = 0 <;> simp_all

def insE (o : S41) (total : Int) : Int :=
  if (chk o.f2).2.2 = 0 then (if (chk o.f2).1 = 0 then 15 else if 256 < (chk o.f2).1 then 14 else if o.f1 < 0 ∨ total < o.f1 then 12 else if 1048576 < total + (chk o.f2).1 then 24 else 0) else (chk o.f2).2.2
def lastHi (l : List S94) : Int := (l.getD (l.length - 1) z94).f1
def rgsE (l : List S94) (total : Int) : Int := if l.length = 0 then 43 else if (rngE l).2 = 0 then (if total < lastHi l then 12 else 0) else (rngE l).2
def staE (o : S41) : Int := if isID o.f4.f0 o.f4.f1 = true ∧ ¬ (o.f4.f0 = o.f0.f0.f0 ∧ o.f4.f1 = o.f0.f0.f1) then 0 else 63
def badID (o : S41) : Prop := ¬ (o.f0.f0.f0 = 0 ∧ o.f0.f0.f1 = 0) ∧ isID o.f0.f0.f0 o.f0.f0.f1 = false
instance (o : S41) : Decidable (badID o) := by unfold badID; infer_instance
def checkE (o : S41) (total : Int) : Int :=
  if total < 0 ∨ 1048576 < total then 12 else if o.f0.f1 < 1 ∨ 4 < o.f0.f1 then 40 else if badID o then 41 else if extraB o = true then 42 else if o.f0.f1 = 1 then insE o total else if o.f0.f1 = 4 then staE o else rgsE o.f3 total
def totOf (o : S41) : Int := if o.f0.f1 = 1 ∧ 0 ≤ o.f1 ∧ o.f1 ≤ 1048576 then o.f1 else 1048576
def ownE (o : S41) : Int := checkE o (totOf o)

theorem ins_is (k : Nat) (o : S41) (total : Int) (ht : 0 ≤ total ∧ total ≤ 1048576) (hs : o.f2.size ≤ 1048576) : op_checkIns.f (k + 1) o.f0.f0.f0 o.f0.f0.f1 o.f0.f1 o.f1 o.f2 o.f3 o.f4.f0 o.f4.f1 o.f5 total = some (insE o total) := by
  have hb := chk_bound o.f2 hs
  unfold op_checkIns.f insE
  rw [chk_f]
  simp only [Option.bind_some]
  by_cases c1 : (chk o.f2).2.2 = 0
  · rw [if_pos c1, if_pos c1]
    by_cases c2 : (chk o.f2).1 = 0
    · rw [if_pos c2, if_pos c2]
    · rw [if_neg c2, if_neg c2]
      by_cases c3 : 256 < (chk o.f2).1
      · rw [if_pos (by omega), if_pos c3]
      · rw [if_neg (by omega), if_neg c3]
        have w : wrap64 (total + (chk o.f2).1) = total + (chk o.f2).1 := wrap_id (by omega) (by omega)
        by_cases c4 : o.f1 < 0
        · rw [if_pos c4, if_pos (Or.inl c4), op_checkIns.j0, if_pos rfl]
        · rw [if_neg c4, op_checkIns.j0]
          by_cases c5 : total < o.f1
          · rw [if_pos (decide_eq_true c5), if_pos (Or.inr c5)]
          · rw [if_neg (by rw [decide_eq_false (by omega)]; simp), if_neg (show ¬ (o.f1 < 0 ∨ total < o.f1) by omega), w]
            by_cases c6 : 1048576 < total + (chk o.f2).1
            · rw [if_pos (by omega), if_pos c6]
            · rw [if_neg (by omega), if_neg c6]
  · rw [if_neg c1, if_neg c1]
theorem rins_is (o : S41) (total : Int) (ht : 0 ≤ total ∧ total ≤ 1048576) (hs : o.f2.size ≤ 1048576) : Ev (fun k => redraftref04_insert.f k o.f0.f0.f0 o.f0.f0.f1 o.f0.f1 o.f1 o.f2 o.f3 o.f4.f0 o.f4.f1 o.f5 total) (insE o total) := by
  obtain ⟨K, hK⟩ := ref_chk o.f2 hs
  dsimp only at hK
  have hb := chk_bound o.f2 hs
  refine ⟨K + 1, fun k hk => ?_⟩
  obtain ⟨k, rfl⟩ : ∃ m, k = m + 1 := ⟨k - 1, by omega⟩
  simp only [redraftref04_insert.f, insE]
  rw [hK (k + 1) (by omega)]
  simp only [Option.bind_some]
  by_cases c1 : (chk o.f2).2.2 = 0
  · rw [if_pos c1, if_pos c1]
    by_cases c2 : (chk o.f2).1 = 0
    · rw [if_pos c2, if_pos c2]
    · rw [if_neg c2, if_neg c2]
      by_cases c3 : 256 < (chk o.f2).1
      · rw [if_pos (by omega), if_pos c3]
      · rw [if_neg (by omega), if_neg c3]
        have w : wrap64 (total + (chk o.f2).1) = total + (chk o.f2).1 := wrap_id (by omega) (by omega)
        by_cases c4 : o.f1 < 0
        · rw [if_pos c4, if_pos (Or.inl c4), redraftref04_insert.j0, if_pos rfl]
        · rw [if_neg c4, redraftref04_insert.j0]
          by_cases c5 : total < o.f1
          · rw [if_pos (decide_eq_true c5), if_pos (Or.inr c5)]
          · rw [if_neg (by rw [decide_eq_false (by omega)]; simp), if_neg (show ¬ (o.f1 < 0 ∨ total < o.f1) by omega), w]
            by_cases c6 : 1048576 < total + (chk o.f2).1
            · rw [if_pos (by omega), if_pos c6]
            · rw [if_neg (by omega), if_neg c6]
  · rw [if_neg c1, if_neg c1]
theorem rgs_is (l : List S94) (total : Int) (hl : l.length ≤ 4611686018427387904) : Ev (fun k => op_checkRanges.f k l total) (rgsE l total) := by
  obtain ⟨K, hK⟩ := span_chk l
  dsimp only at hK
  refine ⟨K, fun k hk => ?_⟩
  simp only [op_checkRanges.f, rgsE]
  by_cases c0 : l.length = 0
  · rw [if_pos (by omega), if_pos c0]
  · rw [if_neg (by omega), if_neg c0, hK k hk]
    simp only [Option.bind_some]
    by_cases c1 : (rngE l).2 = 0
    · have w : wrap64 ((l.length : Int) - 1) = ((l.length - 1 : Nat) : Int) := by rw [wrap_id (by omega) (by omega)]; omega
      have e : rd_T94 l ((l.length - 1 : Nat) : Int) = l.getD (l.length - 1) z94 := by unfold rd_T94; rw [Int.toNat_natCast]
      rw [if_pos c1, if_pos c1, w, if_pos (by omega), if_pos (by omega), e]
      unfold lastHi
      by_cases c2 : total < (l.getD (l.length - 1) z94).f1
      · rw [if_pos (by omega), if_pos c2]
      · rw [if_neg (by omega), if_neg c2]
    · rw [if_neg c1, if_neg c1]

theorem check_is (o : S41) (total : Int) (hs : o.f2.size ≤ 1048576) (hl : o.f3.length ≤ 4611686018427387904) : Ev (fun k => op_Check.f k o.f0.f0.f0 o.f0.f0.f1 o.f0.f1 o.f1 o.f2 o.f3 o.f4.f0 o.f4.f1 o.f5 total) (checkE o total) := by
  obtain ⟨K, hK⟩ := rgs_is o.f3 total hl
  dsimp only at hK
  refine ⟨K + 4, fun k hk => ?_⟩
  obtain ⟨k, rfl⟩ : ∃ m, k = m + 4 := ⟨k - 4, by omega⟩
  simp only [op_Check.f, checkE]
  by_cases c0 : total < 0
  · rw [if_pos c0, if_pos (Or.inl c0), op_Check.j0, if_pos rfl]
  · rw [if_neg c0, op_Check.j0]
    by_cases c1 : 1048576 < total
    · rw [if_pos (decide_eq_true c1), if_pos (Or.inr c1)]
    · rw [if_neg (by rw [decide_eq_false (by omega)]; simp), if_neg (show ¬ (total < 0 ∨ 1048576 < total) by omega)]
      by_cases c2 : o.f0.f1 < 1
      · rw [if_pos c2, if_pos (Or.inl c2), op_Check.j1, if_pos rfl]
      · rw [if_neg c2, op_Check.j1]
        by_cases c3 : 4 < o.f0.f1
        · rw [if_pos (decide_eq_true c3), if_pos (Or.inr c3)]
        · rw [if_neg (by rw [decide_eq_false (by omega)]; simp), if_neg (show ¬ (o.f0.f1 < 1 ∨ 4 < o.f0.f1) by omega)]
          have hj : ∀ b : Bool, (b = true ↔ badID o) → op_Check.j2 (k + 2) total b o.f0.f0.f0 o.f0.f0.f1 o.f0.f1 o.f1 o.f2 o.f3 o.f4.f0 o.f4.f1 o.f5 = some (if badID o then 41 else if extraB o = true then 42 else if o.f0.f1 = 1 then insE o total else if o.f0.f1 = 4 then staE o else rgsE o.f3 total) := by
            intro b hb
            rw [op_Check.j2]
            by_cases c4 : badID o
            · rw [if_pos (hb.2 c4), if_pos c4]
            · rw [if_neg (fun h => c4 (hb.1 h)), if_neg c4, extra_is]
              simp only [Option.bind_some]
              by_cases c5 : extraB o = true
              · rw [if_pos c5, if_pos c5]
              · rw [if_neg c5, if_neg c5]
                by_cases c6 : o.f0.f1 = 1
                · rw [if_pos c6, if_pos c6, ins_is k o total ⟨by omega, by omega⟩ hs]
                  rfl
                · rw [if_neg c6, if_neg c6]
                  by_cases c7 : o.f0.f1 = 4
                  · rw [if_pos c7, if_pos c7, right_is]
                    simp only [Option.bind_some]
                    unfold staE
                    by_cases c8 : isID o.f4.f0 o.f4.f1 = true
                    · rw [if_pos c8]
                      by_cases c9 : o.f4.f0 = o.f0.f0.f0 ∧ o.f4.f1 = o.f0.f0.f1
                      · rw [if_pos (by simp [c9.1, c9.2]), if_neg (fun h => h.2 c9)]
                      · rw [if_neg (by simpa using c9), if_pos ⟨c8, c9⟩]
                    · rw [if_neg c8, if_neg (fun h => c8 h.1)]
                  · rw [if_neg c7, if_neg c7, hK (k + 1) (by omega)]
                    rfl
          by_cases c4 : (!(o.f0.f0.f0 == 0) || (!(o.f0.f0.f1 == 0))) = true
          · rw [if_pos c4, right_is]
            simp only [Option.bind_some]
            refine hj _ ?_
            have : ¬ (o.f0.f0.f0 = 0 ∧ o.f0.f0.f1 = 0) := by simpa [Classical.or_iff_not_imp_left] using c4
            unfold badID
            simp [this]
          · rw [if_neg c4]
            refine hj _ ?_
            have : o.f0.f0.f0 = 0 ∧ o.f0.f0.f1 = 0 := by simpa using c4
            unfold badID
            simp [this]

theorem rcheck_is (o : S41) (total : Int) (hs : o.f2.size ≤ 1048576) (hl : o.f3.length ≤ 4611686018427387904) : Ev (fun k => redraftref04_Check.f k o.f0.f0.f0 o.f0.f0.f1 o.f0.f1 o.f1 o.f2 o.f3 o.f4.f0 o.f4.f1 o.f5 total) (checkE o total) := by
  obtain ⟨K, hK⟩ := ref_rng o.f3
  obtain ⟨K2, hK2⟩ : ∃ K2, ∀ k, K2 ≤ k → 0 ≤ total ∧ total ≤ 1048576 → redraftref04_insert.f k o.f0.f0.f0 o.f0.f0.f1 o.f0.f1 o.f1 o.f2 o.f3 o.f4.f0 o.f4.f1 o.f5 total = some (insE o total) := by
    by_cases ht : 0 ≤ total ∧ total ≤ 1048576
    · obtain ⟨K2, h⟩ := rins_is o total ht hs
      exact ⟨K2, fun k hk _ => h k hk⟩
    · exact ⟨0, fun k hk h => absurd h ht⟩
  dsimp only at hK
  refine ⟨K + K2 + 4, fun k hk => ?_⟩
  obtain ⟨k, rfl⟩ : ∃ m, k = m + 4 := ⟨k - 4, by omega⟩
  simp only [redraftref04_Check.f, checkE]
  by_cases c0 : total < 0
  · rw [if_pos c0, if_pos (Or.inl c0), redraftref04_Check.j0, if_pos rfl]
  · rw [if_neg c0, redraftref04_Check.j0]
    by_cases c1 : 1048576 < total
    · rw [if_pos (decide_eq_true c1), if_pos (Or.inr c1)]
    · rw [if_neg (by rw [decide_eq_false (by omega)]; simp), if_neg (show ¬ (total < 0 ∨ 1048576 < total) by omega)]
      by_cases c2 : o.f0.f1 < 1
      · rw [if_pos c2, if_pos (Or.inl c2), redraftref04_Check.j1, if_pos rfl]
      · rw [if_neg c2, redraftref04_Check.j1]
        by_cases c3 : 4 < o.f0.f1
        · rw [if_pos (decide_eq_true c3), if_pos (Or.inr c3)]
        · rw [if_neg (by rw [decide_eq_false (by omega)]; simp), if_neg (show ¬ (o.f0.f1 < 1 ∨ 4 < o.f0.f1) by omega), isID_is, none_is]
          simp only [Option.bind_some]
          have hj : ∀ b : Bool, (b = true ↔ badID o) → redraftref04_Check.j2 (k + 2) total o.f0.f1 b o.f0.f0.f0 o.f0.f0.f1 o.f0.f1 o.f1 o.f2 o.f3 o.f4.f0 o.f4.f1 o.f5 = some (if badID o then 41 else if extraB o = true then 42 else if o.f0.f1 = 1 then insE o total else if o.f0.f1 = 4 then staE o else rgsE o.f3 total) := by
            intro b hb
            rw [redraftref04_Check.j2]
            by_cases c4 : badID o
            · rw [if_pos (hb.2 c4), if_pos c4]
            · rw [if_neg (fun h => c4 (hb.1 h)), if_neg c4, rextra_is o (by omega)]
              simp only [Option.bind_some]
              by_cases c5 : extraB o = true
              · rw [if_pos c5, if_pos c5]
              · rw [if_neg c5, if_neg c5]
                by_cases c6 : o.f0.f1 = 1
                · rw [if_pos c6, if_pos c6]
                  rw [hK2 (k + 1) (by omega) ⟨by omega, by omega⟩]
                  rfl
                · rw [if_neg c6, if_neg c6]
                  by_cases c7 : o.f0.f1 = 4
                  · rw [if_pos c7, if_pos c7, isID_is]
                    simp only [Option.bind_some]
                    unfold staE
                    by_cases c8 : isID o.f4.f0 o.f4.f1 = true
                    · rw [if_pos c8]
                      by_cases c9 : o.f4.f0 = o.f0.f0.f0
                      · rw [if_pos c9]
                        by_cases c10 : o.f4.f1 = o.f0.f0.f1
                        · rw [if_pos c10, if_neg (fun h => h.2 ⟨c9, c10⟩)]
                        · rw [if_neg c10, if_pos ⟨c8, fun h => c10 h.2⟩]
                      · rw [if_neg c9, if_pos ⟨c8, fun h => c9 h.1⟩]
                    · rw [if_neg c8, if_neg (fun h => c8 h.1)]
                  · rw [if_neg c7, if_neg c7]
                    unfold rgsE
                    by_cases c8 : o.f3.length = 0
                    · rw [if_pos (by omega), if_pos c8]
                    · rw [if_neg (by omega), if_neg c8, hK (k + 1) (by omega)]
                      simp only [Option.bind_some]
                      by_cases c9 : (rngE o.f3).2 = 0
                      · have w : wrap64 ((o.f3.length : Int) - 1) = ((o.f3.length - 1 : Nat) : Int) := by rw [wrap_id (by omega) (by omega)]; omega
                        have e : rd_T94 o.f3 ((o.f3.length - 1 : Nat) : Int) = o.f3.getD (o.f3.length - 1) z94 := by unfold rd_T94; rw [Int.toNat_natCast]
                        rw [if_pos c9, if_pos c9, w, if_pos (by omega), if_pos (by omega), e]
                        unfold lastHi
                        by_cases c10 : total < (o.f3.getD (o.f3.length - 1) z94).f1
                        · rw [if_pos (by omega), if_pos c10]
                        · rw [if_neg (by omega), if_neg c10, c9]
                      · rw [if_neg c9, if_neg c9]
          by_cases c4 : isID o.f0.f0.f0 o.f0.f0.f1 = true
          · rw [if_pos c4]
            exact hj _ (by unfold badID; simp [c4])
          · rw [if_neg c4]
            refine hj _ ⟨fun h => ⟨fun hx => ?_, Bool.eq_false_iff.2 c4⟩, fun h => ?_⟩
            · rw [decide_eq_true hx] at h; cases h
            · rw [decide_eq_false h.1]; rfl

theorem own_is (o : S41) (hs : o.f2.size ≤ 1048576) (hl : o.f3.length ≤ 4611686018427387904) : Ev (fun k => xform_own.f k o.f0.f0.f0 o.f0.f0.f1 o.f0.f1 o.f1 o.f2 o.f3 o.f4.f0 o.f4.f1 o.f5) (ownE o) := by
  obtain ⟨K, hK⟩ := check_is o (totOf o) hs hl
  dsimp only at hK
  refine ⟨K + 1, fun k hk => ?_⟩
  obtain ⟨k, rfl⟩ : ∃ m, k = m + 1 := ⟨k - 1, by omega⟩
  have hK' := hK k (by omega)
  simp only [xform_own.f, ownE]
  by_cases c1 : o.f0.f1 = 1
  · by_cases c2 : 0 ≤ o.f1
    · by_cases c3 : o.f1 ≤ 1048576
      · have e : totOf o = o.f1 := by unfold totOf; rw [if_pos ⟨c1, c2, c3⟩]
        rw [e] at hK' ⊢
        rw [if_pos c1, if_pos c2, xform_own.j0, if_pos (decide_eq_true c3), hK']
        rfl
      · have e : totOf o = 1048576 := by unfold totOf; rw [if_neg (fun h => c3 h.2.2)]
        rw [e] at hK' ⊢
        rw [if_pos c1, if_pos c2, xform_own.j0, if_neg (by rw [decide_eq_false c3]; simp), hK']
        rfl
    · have e : totOf o = 1048576 := by unfold totOf; rw [if_neg (fun h => c2 h.2.1)]
      rw [e] at hK' ⊢
      rw [if_pos c1, if_neg c2, xform_own.j0, if_neg (by simp), hK']
      rfl
  · have e : totOf o = 1048576 := by unfold totOf; rw [if_neg (fun h => c1 h.1)]
    rw [e] at hK' ⊢
    rw [if_neg c1, xform_own.j0, if_neg (by simp), hK']
    rfl
theorem rown_is (o : S41) (hs : o.f2.size ≤ 1048576) (hl : o.f3.length ≤ 4611686018427387904) : Ev (fun k => redraftref04_Own.f k o.f0.f0.f0 o.f0.f0.f1 o.f0.f1 o.f1 o.f2 o.f3 o.f4.f0 o.f4.f1 o.f5) (ownE o) := by
  obtain ⟨K, hK⟩ := rcheck_is o (totOf o) hs hl
  dsimp only at hK
  refine ⟨K + 1, fun k hk => ?_⟩
  obtain ⟨k, rfl⟩ : ∃ m, k = m + 1 := ⟨k - 1, by omega⟩
  have hK' := hK k (by omega)
  simp only [redraftref04_Own.f, ownE]
  by_cases c1 : o.f0.f1 = 1
  · by_cases c2 : 0 ≤ o.f1
    · by_cases c3 : o.f1 ≤ 1048576
      · have e : totOf o = o.f1 := by unfold totOf; rw [if_pos ⟨c1, c2, c3⟩]
        rw [e] at hK' ⊢
        rw [if_pos c1, if_pos c2, redraftref04_Own.j0, if_pos (decide_eq_true c3), hK']
        rfl
      · have e : totOf o = 1048576 := by unfold totOf; rw [if_neg (fun h => c3 h.2.2)]
        rw [e] at hK' ⊢
        rw [if_pos c1, if_pos c2, redraftref04_Own.j0, if_neg (by rw [decide_eq_false c3]; simp), hK']
        rfl
    · have e : totOf o = 1048576 := by unfold totOf; rw [if_neg (fun h => c2 h.2.1)]
      rw [e] at hK' ⊢
      rw [if_pos c1, if_neg c2, redraftref04_Own.j0, if_neg (by simp), hK']
      rfl
  · have e : totOf o = 1048576 := by unfold totOf; rw [if_neg (fun h => c1 h.1)]
    rw [e] at hK' ⊢
    rw [if_neg c1, redraftref04_Own.j0, if_neg (by simp), hK']
    rfl
end Go.Proofs.YtloccjkcmlkifaaDoor

namespace Go.Proofs.YtloccjkcmlkifaaDoor
open Go.RowKit Go.Proofs.YtloccjkcmlkifaaDoor.PCar Go.Proofs.YtloccjkcmlkifaaDoorW.PrintWords

def ctxWith (who at' n : Int) : List S154 := (if at' > 0 then [⟨0, 0, at'⟩] else []) ++ [⟨who, 0, n⟩, ⟨0, at', 2097152⟩]
theorem with_ctx (k : Nat) (who at' n : Int) (h0 : 0 ≤ at') (h1 : at' ≤ 1048576) : redraftref05_with.f (k + 3) [(⟨0, 0, 2097152⟩ : S154)] who at' n = some (ctxWith who at' n) := by
  unfold redraftref05_with.f
  rw [show k + 3 = (k + 2) + 1 from rfl, redraftref05_with.l0]
  have e0 : rd_T154 [(⟨0, 0, 2097152⟩ : S154)] 0 = ⟨0, 0, 2097152⟩ := rfl
  have w1 : wrap64 (2097152 - 0) = 2097152 := by unfold wrap64; omega
  have w2 : wrap64 (0 + 2097152) = 2097152 := by unfold wrap64; omega
  have w3 : wrap64 (0 + at') = at' := by rw [wrap_id (by omega) (by omega)]; omega
  have w4 : wrap64 (at' - 0) = at' := by rw [wrap_id (by omega) (by omega)]; omega
  have w5 : wrap64 (0 + 1) = 1 := by unfold wrap64; omega
  rw [if_pos (by simp), if_pos (by omega), if_pos (by omega), e0]
  simp only [w1, w2]
  rw [redraftref05_with.j1, if_pos (decide_eq_true (by omega))]
  simp only [w3, w4, w5, w2]
  unfold ctxWith
  by_cases h : at' > 0
  · rw [if_pos h, if_pos h, if_pos (by simp)]
    try simp only [Option.bind_some]
    rw [if_pos (by simp)]
    try simp only [Option.bind_some]
    rw [if_pos (by simp), show k + 1 = k + 1 from rfl, redraftref05_with.l0, if_neg (by simp)]
    rfl
  · obtain rfl : at' = 0 := by omega
    rw [if_neg h, if_neg h, if_pos (by simp)]
    try simp only [Option.bind_some]
    rw [if_pos (by simp), redraftref05_with.l0, if_neg (by simp)]
    rfl

theorem place_step (k : Nat) (row : List S154) (who x seen : Int) (i : Nat) (hi : i < row.length) (hl : row.length ≤ 100) (s : S154) (hs : row.getD i z154 = s) (hb : 0 ≤ seen ∧ seen ≤ 16777216 ∧ 0 ≤ x ∧ x ≤ 16777216 ∧ 0 ≤ s.f1 ∧ s.f1 ≤ 16777216 ∧ 0 ≤ s.f2 ∧ s.f2 ≤ 16777216) :
    redraftref05_place.l0 (k + 1) row who x seen (i : Int) = if s.f0 = who ∧ s.f1 ≤ x ∧ x < s.f2 then some (seen + x - s.f1) else redraftref05_place.l0 k row who x (seen + s.f2 - s.f1) ((i + 1 : Nat) : Int) := by
  have e : rd_T154 row (i : Int) = s := by unfold rd_T154; rw [Int.toNat_natCast, hs]
  have w1 : wrap64 (wrap64 (seen + x) - s.f1) = seen + x - s.f1 := by rw [wrap_id (n := seen + x) (by omega) (by omega), wrap_id (by omega) (by omega)]
  have w2 : wrap64 (wrap64 (seen + s.f2) - s.f1) = seen + s.f2 - s.f1 := by rw [wrap_id (n := seen + s.f2) (by omega) (by omega), wrap_id (by omega) (by omega)]
  have w3 : wrap64 ((i : Int) + 1) = ((i + 1 : Nat) : Int) := by rw [wrap_id (by omega) (by omega)]; omega
  rw [redraftref05_place.l0, if_pos (by omega), if_pos (by omega), e, w1, w2, w3]
  by_cases c1 : s.f0 = who
  · by_cases c2 : s.f1 ≤ x
    · by_cases c3 : x < s.f2
      · rw [if_pos c1, if_pos c2, if_pos c3, if_pos ⟨c1, c2, c3⟩]
      · rw [if_pos c1, if_pos c2, if_neg c3, if_neg (fun h => c3 h.2.2)]
    · rw [if_pos c1, if_neg c2, if_neg (fun h => c2 h.2.1)]
  · rw [if_neg c1, if_neg (fun h => c1 h.1)]

theorem place_ctx (k : Nat) (who at' n x : Int) (hw : who ≠ 0) (h0 : 0 ≤ at') (h1 : at' ≤ 1048576) (hn : 0 ≤ n ∧ n ≤ 1048576) (hx : 0 ≤ x) (hx1 : x ≤ 1048576) :
    redraftref05_place.f (k + 4) (ctxWith who at' n) 0 x = some (if x < at' then x else x + n) := by
  unfold redraftref05_place.f
  rw [show (0 : Int) = ((0 : Nat) : Int) from rfl]
  by_cases h : at' > 0
  · have hc : ctxWith who at' n = [⟨0, 0, at'⟩, ⟨who, 0, n⟩, ⟨0, at', 2097152⟩] := by unfold ctxWith; rw [if_pos h]; rfl
    rw [hc, show k + 4 = (k + 3) + 1 from rfl, place_step (k + 3) _ _ x _ 0 (by simp) (by simp) ⟨0, 0, at'⟩ rfl (by simp; omega)]
    by_cases c : x < at'
    · rw [if_pos ⟨rfl, hx, c⟩, if_pos c]
      congr 1
      show ((0 : Nat) : Int) + x - 0 = x
      omega
    · rw [if_neg (fun h => c h.2.2), if_neg c]
      have e1 : ((0 : Nat) : Int) + at' - 0 = at' := by omega
      simp only [e1]
      rw [show k + 3 = (k + 2) + 1 from rfl, place_step (k + 2) _ _ x _ 1 (by simp) (by simp) ⟨who, 0, n⟩ rfl (by simp; omega), if_neg (fun h => hw h.1)]
      simp only
      rw [show k + 2 = (k + 1) + 1 from rfl, place_step (k + 1) _ _ x _ 2 (by simp) (by simp) ⟨0, at', 2097152⟩ rfl (by simp; omega), if_pos ⟨rfl, by show at' ≤ x; omega, by show x < 2097152; omega⟩]
      congr 1
      show at' + n - 0 + x - at' = x + n
      omega
  · obtain rfl : at' = 0 := by omega
    have hc : ctxWith who 0 n = [⟨who, 0, n⟩, ⟨0, 0, 2097152⟩] := rfl
    rw [hc, show k + 4 = (k + 3) + 1 from rfl, place_step (k + 3) _ _ x _ 0 (by simp) (by simp) ⟨who, 0, n⟩ rfl (by simp; omega), if_neg (fun h => hw h.1), if_neg (by omega)]
    simp only
    rw [show k + 3 = (k + 2) + 1 from rfl, place_step (k + 2) _ _ x _ 1 (by simp) (by simp) ⟨0, 0, 2097152⟩ rfl (by simp; omega), if_pos ⟨rfl, hx, by show x < 2097152; omega⟩]
    congr 1
    show ((0 : Nat) : Int) + n - 0 + x - 0 = x + n
    omega

def wid (o : S41) : Int := if o.f0.f1 = 1 then (chk o.f2).1 else 0
theorem own_ok {o : S41} (h : ownE o = 0) : 1 ≤ o.f0.f1 ∧ o.f0.f1 ≤ 4 ∧ ¬ badID o ∧ extraB o = false ∧
    (o.f0.f1 = 1 → 0 ≤ o.f1 ∧ o.f1 ≤ 1048576 ∧ (chk o.f2).2.2 = 0 ∧ 1 ≤ (chk o.f2).1 ∧ (chk o.f2).1 ≤ 256 ∧ o.f1 + (chk o.f2).1 ≤ 1048576 ∨ (chk o.f2).1 < 0) ∧
    (o.f0.f1 = 2 ∨ o.f0.f1 = 3 → o.f3.length ≠ 0 ∧ (rngE o.f3).2 = 0 ∧ lastHi o.f3 ≤ 1048576) ∧ (o.f0.f1 = 4 → staE o = 0) := by
  unfold ownE checkE at h
  by_cases t : totOf o < 0 ∨ 1048576 < totOf o
  · rw [if_pos t] at h; omega
  rw [if_neg t] at h
  by_cases k : o.f0.f1 < 1 ∨ 4 < o.f0.f1
  · rw [if_pos k] at h; omega
  rw [if_neg k] at h
  by_cases b : badID o
  · rw [if_pos b] at h; omega
  rw [if_neg b] at h
  by_cases e : extraB o = true
  · rw [if_pos e] at h; omega
  rw [if_neg e] at h
  refine ⟨by omega, by omega, b, by simpa using e, fun k1 => ?_, fun k2 => ?_, fun k4 => ?_⟩
  · rw [if_pos k1] at h
    unfold insE at h
    by_cases c1 : (chk o.f2).2.2 = 0
    · rw [if_pos c1] at h
      by_cases c2 : (chk o.f2).1 = 0
      · rw [if_pos c2] at h; omega
      rw [if_neg c2] at h
      by_cases c3 : 256 < (chk o.f2).1
      · rw [if_pos c3] at h; omega
      rw [if_neg c3] at h
      by_cases c4 : o.f1 < 0 ∨ totOf o < o.f1
      · rw [if_pos c4] at h; omega
      rw [if_neg c4] at h
      by_cases c5 : 1048576 < totOf o + (chk o.f2).1
      · rw [if_pos c5] at h; omega
      by_cases c6 : (chk o.f2).1 < 0
      · exact .inr c6
      left
      have : totOf o = o.f1 ∨ totOf o = 1048576 := by unfold totOf; split <;> simp
      rcases this with q | q
      · exact ⟨by omega, by omega, c1, by omega, by omega, by omega⟩
      · omega
    · rw [if_neg c1] at h; omega
  · rw [if_neg (by omega), if_neg (by omega)] at h
    unfold rgsE at h
    by_cases c1 : o.f3.length = 0
    · rw [if_pos c1] at h; omega
    rw [if_neg c1] at h
    by_cases c2 : (rngE o.f3).2 = 0
    · rw [if_pos c2] at h
      by_cases c3 : totOf o < lastHi o.f3
      · rw [if_pos c3] at h; omega
      exact ⟨c1, c2, by omega⟩
    · rw [if_neg c2] at h; omega
  · rw [if_neg (by omega), if_pos k4] at h
    exact h
theorem own_ins {o : S41} (h : ownE o = 0) (hs : o.f2.size ≤ 1048576) (k : o.f0.f1 = 1) : 0 ≤ o.f1 ∧ o.f1 ≤ 1048576 ∧ (chk o.f2).2.2 = 0 ∧ 1 ≤ (chk o.f2).1 ∧ (chk o.f2).1 ≤ 256 ∧ o.f1 + (chk o.f2).1 ≤ 1048576 := by
  have hb := chk_bound o.f2 hs
  rcases (own_ok h).2.2.2.2.1 k with q | q
  · exact q
  · omega

def caretE (c : Int) (o : S41) : Int × Int :=
  if ownE o = 0 then (if c < 0 ∨ 1048576 < c then (0, 12) else if o.f0.f1 ≠ 1 ∨ c ≤ o.f1 then (c, 0) else if 1048576 < c + wid o then (0, 24) else (c + wid o, 0)) else (0, ownE o)
theorem width_is (o : S41) : op_Width.f o.f0.f0.f0 o.f0.f0.f1 o.f0.f1 o.f1 o.f2 o.f3 o.f4.f0 o.f4.f1 o.f5 = some (wid o) := by
  unfold op_Width.f wid
  by_cases h : o.f0.f1 = 1
  · rw [if_pos h, if_pos h, chk_f]; rfl
  · rw [if_neg h, if_neg h]
theorem caret_is (c : Int) (o : S41) (hs : o.f2.size ≤ 1048576) (hl : o.f3.length ≤ 4611686018427387904) : Ev (fun k => xform_Caret.f k c o.f0.f0.f0 o.f0.f0.f1 o.f0.f1 o.f1 o.f2 o.f3 o.f4.f0 o.f4.f1 o.f5) (caretE c o) := by
  obtain ⟨K, hK⟩ := own_is o hs hl
  dsimp only at hK
  refine ⟨K + 2, fun k hk => ?_⟩
  obtain ⟨k, rfl⟩ : ∃ m, k = m + 2 := ⟨k - 2, by omega⟩
  simp only [xform_Caret.f, caretE]
  rw [hK (k + 2) (by omega)]
  simp only [Option.bind_some]
  by_cases e : ownE o = 0
  · rw [if_pos e, if_pos e]
    by_cases c1 : c < 0
    · rw [if_pos c1, if_pos (Or.inl c1), xform_Caret.j0, if_pos rfl]
    · rw [if_neg c1, xform_Caret.j0]
      by_cases c2 : 1048576 < c
      · rw [if_pos (decide_eq_true c2), if_pos (Or.inr c2)]
      · rw [if_neg (by rw [decide_eq_false (by omega)]; simp), if_neg (show ¬ (c < 0 ∨ 1048576 < c) by omega)]
        by_cases c3 : o.f0.f1 = 1
        · rw [if_pos c3, xform_Caret.j1]
          by_cases c4 : c ≤ o.f1
          · rw [if_pos (decide_eq_true c4), if_pos (Or.inr c4)]
          · have hi := own_ins e hs c3
            have hw : wid o = (chk o.f2).1 := if_pos c3
            rw [if_neg (by rw [decide_eq_false (by omega)]; simp), if_neg (show ¬ (o.f0.f1 ≠ 1 ∨ c ≤ o.f1) by omega), width_is]
            simp only [Option.bind_some]
            rw [wrap_id (n := c + wid o) (by omega) (by omega)]
            by_cases c5 : 1048576 < c + wid o
            · rw [if_pos (by omega), if_pos c5]
            · rw [if_neg (by omega), if_neg c5]
        · rw [if_neg c3, xform_Caret.j1, if_pos rfl, if_pos (Or.inl c3)]
  · rw [if_neg e, if_neg e]
theorem rwidth_is (o : S41) (hs : o.f2.size ≤ 1048576) (h : ownE o = 0) : Ev (fun k => redraftref04_Width.f k o.f0.f0.f0 o.f0.f0.f1 o.f0.f1 o.f1 o.f2 o.f3 o.f4.f0 o.f4.f1 o.f5) (wid o) := by
  obtain ⟨K, hK⟩ := ref_chk o.f2 hs
  dsimp only at hK
  refine ⟨K, fun k hk => ?_⟩
  simp only [redraftref04_Width.f, wid]
  by_cases c : o.f0.f1 = 1
  · rw [if_pos c, if_pos c, hK k hk]
    simp only [Option.bind_some]
    rw [if_pos (own_ins h hs c).2.2.1]
  · rw [if_neg c, if_neg c]
theorem rcaret_is (c : Int) (o : S41) (hs : o.f2.size ≤ 1048576) (hl : o.f3.length ≤ 4611686018427387904) : Ev (fun k => redraftref05_Caret.f k c o.f0.f0.f0 o.f0.f0.f1 o.f0.f1 o.f1 o.f2 o.f3 o.f4.f0 o.f4.f1 o.f5) (caretE c o) := by
  obtain ⟨K, hK⟩ := rown_is o hs hl
  obtain ⟨K2, hK2⟩ : ∃ K2, ∀ k, K2 ≤ k → ownE o = 0 → redraftref04_Width.f k o.f0.f0.f0 o.f0.f0.f1 o.f0.f1 o.f1 o.f2 o.f3 o.f4.f0 o.f4.f1 o.f5 = some (wid o) := by
    by_cases ht : ownE o = 0
    · obtain ⟨K2, h⟩ := rwidth_is o hs ht
      exact ⟨K2, fun k hk _ => h k hk⟩
    · exact ⟨0, fun k hk h => absurd h ht⟩
  dsimp only at hK
  refine ⟨K + K2 + 8, fun k hk => ?_⟩
  obtain ⟨k, rfl⟩ : ∃ m, k = m + 8 := ⟨k - 8, by omega⟩
  simp only [redraftref05_Caret.f, caretE]
  rw [hK (k + 8) (by omega)]
  simp only [Option.bind_some]
  by_cases e : ownE o = 0
  · rw [if_pos e, if_pos e]
    by_cases c1 : c < 0
    · rw [if_pos c1, if_pos (Or.inl c1), redraftref05_Caret.j0, if_pos rfl]
    · rw [if_neg c1, redraftref05_Caret.j0]
      by_cases c2 : 1048576 < c
      · rw [if_pos (decide_eq_true c2), if_pos (Or.inr c2)]
      · rw [if_neg (by rw [decide_eq_false (by omega)]; simp), if_neg (show ¬ (c < 0 ∨ 1048576 < c) by omega)]
        by_cases c3 : o.f0.f1 = 1
        · have hi := own_ins e hs c3
          have hw : wid o = (chk o.f2).1 := if_pos c3
          rw [if_pos c3, redraftref05_Caret.j1]
          by_cases c4 : c = 0
          · rw [if_pos (by simp [c4]), if_pos (Or.inr (by omega))]
          · rw [if_neg (by simpa using c4)]
            simp only [redraftref05_context.f, Option.bind_some]
            rw [hK2 (k + 6) (by omega) e]
            simp only [Option.bind_some]
            rw [show k + 6 = (k + 3) + 3 from rfl, with_ctx (k + 3) 2 o.f1 (wid o) hi.1 hi.2.1]
            simp only [Option.bind_some]
            rw [wrap_id (n := c - 1) (by omega) (by omega), show k + 3 + 3 = (k + 2) + 4 from rfl, place_ctx (k + 2) 2 o.f1 (wid o) (c - 1) (by omega) hi.1 hi.2.1 (by omega) (by omega) (by omega)]
            simp only [Option.bind_some]
            by_cases c5 : c ≤ o.f1
            · rw [if_pos (show c - 1 < o.f1 by omega), if_pos (Or.inr c5), wrap_id (n := c - 1 + 1) (by omega) (by omega), if_neg (by omega)]
              congr 1
              refine Prod.ext ?_ rfl
              show c - 1 + 1 = c
              omega
            · rw [if_neg (show ¬ (c - 1 < o.f1) by omega), if_neg (show ¬ (o.f0.f1 ≠ 1 ∨ c ≤ o.f1) by omega), wrap_id (n := c - 1 + wid o + 1) (by omega) (by omega)]
              by_cases c6 : 1048576 < c + wid o
              · rw [if_pos (by omega), if_pos c6]
              · rw [if_neg (by omega), if_neg c6]
                congr 1
                refine Prod.ext ?_ rfl
                show c - 1 + wid o + 1 = c + wid o
                omega
        · rw [if_neg c3, redraftref05_Caret.j1, if_pos rfl, if_pos (Or.inl c3)]
  · rw [if_neg e, if_neg e]
end Go.Proofs.YtloccjkcmlkifaaDoor

namespace Go.Proofs.YtloccjkcmlkifaaDoor
open Go.RowKit Go.Proofs.YtloccjkcmlkifaaDoor.PCar Go.Proofs.YtloccjkcmlkifaaDoorW.PrintWords

def playsOf (k : Nat) (s : S100) : Option Bool := redraftlaw05_plays.f k s.f0 s.f1.f0.f0.f0 s.f1.f0.f0.f1 s.f1.f0.f1 s.f1.f1 s.f1.f2 s.f1.f3 s.f1.f4.f0 s.f1.f4.f1 s.f1.f5 s.f2.f0.f0.f0 s.f2.f0.f0.f1 s.f2.f0.f1 s.f2.f1 s.f2.f2 s.f2.f3 s.f2.f4.f0 s.f2.f4.f1 s.f2.f5 s.f3 s.f4 s.f5 s.f6 s.f7
theorem played_loop (l : List S100) (lo hi : Int) (hl : l.length ≤ 4611686018427387904) (hP : ∀ s ∈ l, lo ≤ s.f0 → s.f0 ≤ hi → Ev (fun k => playsOf k s) true) :
    ∀ (d i : Nat), l.length - i ≤ d → i ≤ l.length → Ev (fun k => redraftlaw05_played.l0 k l lo hi (i : Int)) true := by
  intro d
  induction d with
  | zero =>
    intro i h1 h2
    refine ⟨1, fun k hk => ?_⟩
    obtain ⟨k, rfl⟩ : ∃ m, k = m + 1 := ⟨k - 1, by omega⟩
    simp only
    rw [redraftlaw05_played.l0, if_neg (by omega)]
  | succ d ih =>
    intro i h1 h2
    by_cases hi' : i < l.length
    · obtain ⟨K, hK⟩ := ih (i + 1) (by omega) (by omega)
      dsimp only at hK
      have w : wrap64 ((i : Int) + 1) = ((i + 1 : Nat) : Int) := by rw [wrap_id (by omega) (by omega)]; omega
      obtain ⟨s, hs⟩ : ∃ s, s = l[i]'hi' := ⟨_, rfl⟩
      have e : rd_T100 l (i : Int) = s := by unfold rd_T100; rw [Int.toNat_natCast, List.getD_eq_getElem?_getD, List.getElem?_eq_getElem hi', Option.getD_some, hs]
      have hm : s ∈ l := by rw [hs]; exact List.getElem_mem hi'
      obtain ⟨K2, hK2⟩ : ∃ K2, ∀ k, K2 ≤ k → lo ≤ s.f0 → s.f0 ≤ hi → playsOf k s = some true := by
        by_cases h : lo ≤ s.f0 ∧ s.f0 ≤ hi
        · obtain ⟨K2, h2⟩ := hP s hm h.1 h.2
          exact ⟨K2, fun k hk _ _ => h2 k hk⟩
        · exact ⟨0, fun k _ a b => absurd ⟨a, b⟩ h⟩
      refine ⟨K + K2 + 2, fun k hk => ?_⟩
      obtain ⟨k, rfl⟩ : ∃ m, k = m + 2 := ⟨k - 2, by omega⟩
      simp only
      rw [show k + 2 = (k + 1) + 1 from rfl, redraftlaw05_played.l0, if_pos (by omega), if_pos (by omega), e]
      by_cases c1 : lo ≤ s.f0
      · rw [if_pos (show s.f0 ≥ lo from c1), redraftlaw05_played.j1, w, hK k (by omega)]
        by_cases c2 : s.f0 ≤ hi
        · rw [if_pos (decide_eq_true c2)]
          have := hK2 k (by omega) c1 c2
          unfold playsOf at this
          rw [this]
          rfl
        · rw [if_neg (by rw [decide_eq_false c2]; simp)]
      · rw [if_neg (show ¬ s.f0 ≥ lo from c1), redraftlaw05_played.j1, w, hK k (by omega), if_neg (by simp)]
    · refine ⟨1, fun k hk => ?_⟩
      obtain ⟨k, rfl⟩ : ∃ m, k = m + 1 := ⟨k - 1, by omega⟩
      simp only
      rw [redraftlaw05_played.l0, if_neg (by omega)]
theorem played_all (l : List S100) (lo hi : Int) (hl : l.length ≤ 4611686018427387904) (hP : ∀ s ∈ l, lo ≤ s.f0 → s.f0 ≤ hi → Ev (fun k => playsOf k s) true) : Ev (fun k => redraftlaw05_played.f k l lo hi) true :=
  played_loop l lo hi hl hP l.length 0 (by omega) (by omega)

def fineOp (o : S41) : Prop := o.f2.size ≤ 1048576 ∧ o.f3.length ≤ 1048576
def fineStep (s : S100) : Prop := fineOp s.f1 ∧ fineOp s.f2 ∧ (s.f3.length ≤ 1048576 ∧ ∀ o ∈ s.f3, fineOp o) ∧ (s.f4.length ≤ 1048576 ∧ ∀ o ∈ s.f4, fineOp o)
theorem copy_is (o : S41) (h : fineOp o) : redraftref05_Copy.f o.f0.f0.f0 o.f0.f0.f1 o.f0.f1 o.f1 o.f2 o.f3 o.f4.f0 o.f4.f1 o.f5 = some (o.f0.f0.f0, o.f0.f0.f1, o.f0.f1, o.f1, o.f2, o.f3, o.f4.f0, o.f4.f1, o.f5) := by
  unfold redraftref05_Copy.f
  rw [if_pos (by have := h.2; simp; omega)]
  rfl
end Go.Proofs.YtloccjkcmlkifaaDoor

namespace Go.Proofs.YtloccjkcmlkifaaDoor
open Go.RowKit Go.Proofs.YtloccjkcmlkifaaDoor.PCar Go.Proofs.YtloccjkcmlkifaaDoorW.PrintWords

theorem plays_caret (s : S100) (hf : fineStep s) (h : s.f0 = 7) : Ev (fun k => playsOf k s) true := by
  obtain ⟨K, hK⟩ := caret_is s.f6 s.f1 hf.1.1 (by have := hf.1.2; omega)
  obtain ⟨K2, hK2⟩ := rcaret_is s.f6 s.f1 hf.1.1 (by have := hf.1.2; omega)
  dsimp only at hK hK2
  refine ⟨K + K2 + 1, fun k hk => ?_⟩
  obtain ⟨k, rfl⟩ : ∃ m, k = m + 1 := ⟨k - 1, by omega⟩
  simp only [playsOf, redraftlaw05_plays.f]
  rw [if_neg (by omega), if_neg (by omega), if_neg (by omega), if_neg (by omega), if_neg (by omega), redraftlaw05_plays.j0, if_neg (by rw [h]; decide), if_pos h, copy_is s.f1 hf.1]
  simp only [Option.bind_some]
  rw [hK k (by omega), hK2 k (by omega)]
  simp only [Option.bind_some]
  rw [if_pos trivial]
  simp only [redraftlaw05_num.f, Option.bind_some]
  simp

theorem carets_pure (l : List S100) (hl : l.length ≤ 1048576) (hf : ∀ s ∈ l, fineStep s) : ∃ k, redraftlaw05_XformCarets.f k l = some true := by
  obtain ⟨K, hK⟩ := played_all l 7 7 (by omega) (fun s hs h1 h2 => plays_caret s (hf s hs) (by omega))
  dsimp only at hK
  obtain ⟨K2, hK2⟩ := caret_is 3 (⟨⟨⟨1, 1⟩, 1⟩, 2, ⟨#[120]⟩, [], ⟨0, 0⟩, false⟩ : S41) (by decide) (by simp)
  dsimp only at hK2
  have e : caretE 3 (⟨⟨⟨1, 1⟩, 1⟩, 2, ⟨#[120]⟩, [], ⟨0, 0⟩, false⟩ : S41) = (4, 0) := by decide +kernel
  refine ⟨K + K2, ?_⟩
  simp only [redraftlaw05_XformCarets.f, redraftlaw05_ins.f, Option.bind_some]
  rw [hK2 (K + K2) (by omega), e]
  simp only [Option.bind_some, redraftlaw05_num.f]
  rw [hK (K + K2) (by omega)]
  rfl
end Go.Proofs.YtloccjkcmlkifaaDoor

