/- XformBrings_card, part 38. -/
import Derived.Test.YtloccjkcmlkifaaDoorQBr20
import Derived.Test.YtloccjkcmlkifaaDoorQBr18
import Derived.Lib.QuoteBits
import Derived.Laws.BitsAllLaws
import Derived.Test.YtloccjkcmlkifaaDoorQBr25
import Derived.Test.YtloccjkcmlkifaaDoorQBr30
import Derived.Test.YtloccjkcmlkifaaDoorQBr34
import Derived.Test.YtloccjkcmlkifaaDoorQBr32
import Derived.Test.YtloccjkcmlkifaaDoorQBr33
import Derived.WalkKit
import Derived.Deep.MidRow

section
/- The document's way of reading a rune, and the program's: the same. -/
namespace Go.Proofs.YtloccjkcmlkifaaDoor
open Go.RowKit Go.Proofs.YtloccjkcmlkifaaDoor.PAll Go.Proofs.YtloccjkcmlkifaaDoorW.PrintWords

theorem wrap_id {n : Int} (h0 : -9223372036854775808 ≤ n) (h1 : n ≤ 9223372036854775807) : wrap64 n = n := by unfold wrap64; omega
def gb (s : ByteArray) (i : Nat) : Nat := (s.get! i).toNat
theorem gb_lt (s : ByteArray) (i : Nat) : gb s i < 256 := (s.get! i).toNat_lt
theorem bt_gb (s : ByteArray) (i : Nat) (h : i < s.size) : bt s (i : Int) = (gb s i : Int) := by
 unfold bt gb
 have : (i : Int).toNat = i := by omega
 rw [dif_pos (by omega)]
 have e : s.get! i = s[i]'h := by simp [ByteArray.get!, getElem!_pos, h]; rfl
 rw [e]
 congr 2
def contB (s : ByteArray) (pos j : Nat) : Bool := decide (pos + j < s.size) && (gb s (pos + j) / 64 == 2)

theorem seq_step {k : Nat} {s : ByteArray} {pos j : Nat} {n r least : Int} (hp : pos + j < 4611686018427387904) (hr : 0 ≤ r) (hr2 : r < 1099511627776) (hj : (j : Int) < n) :
 redraftref01_Sequence.l0 (k + 1) s pos n r least j = if contB s pos j then redraftref01_Sequence.l0 k s pos n (r * 64 + ((gb s (pos + j) % 64 : Nat) : Int)) least ((j + 1 : Nat) : Int) else some (0, 0) := by
 rw [redraftref01_Sequence.l0, if_pos hj]
 have w1 : wrap64 ((pos : Int) + (j : Int)) = ((pos + j : Nat) : Int) := by rw [wrap_id (by omega) (by omega)]; omega
 rw [w1]
 unfold contB
 by_cases hs : pos + j < s.size
 · rw [if_neg (by omega), if_pos (by omega), if_pos (by omega), bt_gb s _ hs]
   have hb := gb_lt s (pos + j)
   rw [wrap_id (n := (gb s (pos + j) : Int)) (by omega) (by omega)]
   have e1 : Int.tdiv (gb s (pos + j) : Int) 64 = ((gb s (pos + j) / 64 : Nat) : Int) := by rw [Int.tdiv_eq_ediv_of_nonneg (by omega)]; rfl
   have e2 : Int.tmod (gb s (pos + j) : Int) 64 = ((gb s (pos + j) % 64 : Nat) : Int) := by rw [Int.tmod_eq_emod_of_nonneg (by omega)]; rfl
   rw [e1, e2, wrap_id (n := ((gb s (pos + j) / 64 : Nat) : Int)) (by omega) (by omega)]
   by_cases h2 : gb s (pos + j) / 64 = 2
   · rw [if_pos (by omega), wrap_id (n := r * 64) (by omega) (by omega), wrap_id (by omega) (by omega), wrap_id (n := (j : Int) + 1) (by omega) (by omega)]
     simp [hs, h2]
   · rw [if_neg (by omega)]
     simp [hs, h2]
 · rw [if_pos (by omega)]
   simp [hs]
theorem seq_end {k : Nat} {s : ByteArray} {x n r least : Int} : redraftref01_Sequence.l0 (k + 1) s x n r least n = if r < least ∨ 1114111 < r ∨ (55296 ≤ r ∧ r ≤ 57343) then some (0, 0) else some (r, n) := by
 rw [redraftref01_Sequence.l0, if_neg (by omega)]
 by_cases h1 : r < least
 · simp [h1]
 · by_cases h2 : r > 1114111
   · simp [h1, h2]
   · by_cases h3 : r ≥ 55296
     · by_cases h4 : r ≤ 57343
       · simp [h1, h2, h3, h4]
       · simp [h1, h2, h3, h4]
     · simp [h1, h2, h3]

def seqR (s : ByteArray) (pos : Nat) : Int × Int :=
 let b := gb s pos
 if b < 128 then (b, 1)
 else if b / 32 = 6 then (if contB s pos 1 then (let r : Int := (b % 32 : Nat) * 64 + (gb s (pos + 1) % 64 : Nat); if r < 128 ∨ 1114111 < r ∨ (55296 ≤ r ∧ r ≤ 57343) then (0, 0) else (r, 2)) else (0, 0))
 else if b / 16 = 14 then (if contB s pos 1 then (if contB s pos 2 then (let r : Int := ((b % 16 : Nat) * 64 + (gb s (pos + 1) % 64 : Nat)) * 64 + (gb s (pos + 2) % 64 : Nat); if r < 2048 ∨ 1114111 < r ∨ (55296 ≤ r ∧ r ≤ 57343) then (0, 0) else (r, 3)) else (0, 0)) else (0, 0))
 else if b / 8 = 30 then (if contB s pos 1 then (if contB s pos 2 then (if contB s pos 3 then (let r : Int := (((b % 8 : Nat) * 64 + (gb s (pos + 1) % 64 : Nat)) * 64 + (gb s (pos + 2) % 64 : Nat)) * 64 + (gb s (pos + 3) % 64 : Nat); if r < 65536 ∨ 1114111 < r ∨ (55296 ≤ r ∧ r ≤ 57343) then (0, 0) else (r, 4)) else (0, 0)) else (0, 0)) else (0, 0))
 else (0, 0)

theorem seq_is (k : Nat) (s : ByteArray) (pos : Nat) (h : pos < s.size) (hs : s.size ≤ 140737488351232) : redraftref01_Sequence.f (k + 8) s pos = some (seqR s pos) := by
 unfold redraftref01_Sequence.f
 rw [if_neg (by omega), show decide ((pos : Int) ≥ (s.size : Int)) = false from decide_eq_false (by omega), redraftref01_Sequence.j0, if_neg (by simp), if_pos (by omega), if_pos (by omega), bt_gb s pos h]
 have hb := gb_lt s pos
 obtain ⟨b, hbb⟩ : ∃ b, b = gb s pos := ⟨_, rfl⟩
 rw [← hbb] at hb ⊢
 rw [wrap_id (n := (b : Int)) (by omega) (by omega)]
 have e1 : Int.tdiv (b : Int) 32 = ((b / 32 : Nat) : Int) := by rw [Int.tdiv_eq_ediv_of_nonneg (by omega)]; rfl
 have e2 : Int.tmod (b : Int) 32 = ((b % 32 : Nat) : Int) := by rw [Int.tmod_eq_emod_of_nonneg (by omega)]; rfl
 have e3 : Int.tdiv (b : Int) 16 = ((b / 16 : Nat) : Int) := by rw [Int.tdiv_eq_ediv_of_nonneg (by omega)]; rfl
 have e4 : Int.tmod (b : Int) 16 = ((b % 16 : Nat) : Int) := by rw [Int.tmod_eq_emod_of_nonneg (by omega)]; rfl
 have e5 : Int.tdiv (b : Int) 8 = ((b / 8 : Nat) : Int) := by rw [Int.tdiv_eq_ediv_of_nonneg (by omega)]; rfl
 have e6 : Int.tmod (b : Int) 8 = ((b % 8 : Nat) : Int) := by rw [Int.tmod_eq_emod_of_nonneg (by omega)]; rfl
 rw [e1, e2, e3, e4, e5, e6, wrap_id (n := ((b / 32 : Nat) : Int)) (by omega) (by omega), wrap_id (n := ((b / 16 : Nat) : Int)) (by omega) (by omega), wrap_id (n := ((b / 8 : Nat) : Int)) (by omega) (by omega)]
 unfold seqR
 rw [← hbb]
 simp only
 by_cases c0 : b < 128
 · rw [if_pos (by omega), if_pos c0]
 · rw [if_neg (by omega), if_neg c0]
   have g1 := gb_lt s (pos + 1); have g2 := gb_lt s (pos + 2); have g3 := gb_lt s (pos + 3)
   by_cases c1 : b / 32 = 6
   · rw [if_pos (by omega), if_pos c1, redraftref01_Sequence.j1, show (1 : Int) = ((1 : Nat) : Int) from rfl, seq_step (by omega) (by omega) (by omega) (by omega)]
     by_cases q1 : contB s pos 1 = true
     · rw [if_pos q1, if_pos q1, show (((1 + 1 : Nat)) : Int) = 2 from rfl, seq_end]
       split <;> rfl
     · rw [if_neg q1, if_neg q1]
   · rw [if_neg (by omega), if_neg c1]
     by_cases c2 : b / 16 = 14
     · rw [if_pos (by omega), if_pos c2, redraftref01_Sequence.j1, show (1 : Int) = ((1 : Nat) : Int) from rfl, seq_step (by omega) (by omega) (by omega) (by omega)]
       by_cases q1 : contB s pos 1 = true
       · rw [if_pos q1, if_pos q1, seq_step (by omega) (by omega) (by omega) (by omega)]
         by_cases q2 : contB s pos 2 = true
         · rw [if_pos q2, if_pos q2, show (((1 + 1 + 1 : Nat)) : Int) = 3 from rfl, seq_end]
           split <;> rfl
         · rw [if_neg q2, if_neg q2]
       · rw [if_neg q1, if_neg q1]
     · rw [if_neg (by omega), if_neg c2]
       by_cases c3 : b / 8 = 30
       · rw [if_pos (by omega), if_pos c3, redraftref01_Sequence.j1, show (1 : Int) = ((1 : Nat) : Int) from rfl, seq_step (by omega) (by omega) (by omega) (by omega)]
         by_cases q1 : contB s pos 1 = true
         · rw [if_pos q1, if_pos q1, seq_step (by omega) (by omega) (by omega) (by omega)]
           by_cases q2 : contB s pos 2 = true
           · rw [if_pos q2, if_pos q2, seq_step (by omega) (by omega) (by omega) (by omega)]
             by_cases q3 : contB s pos 3 = true
             · rw [if_pos q3, if_pos q3, show (((1 + 1 + 1 + 1 : Nat)) : Int) = 4 from rfl, seq_end]
               split <;> rfl
             · rw [if_neg q3, if_neg q3]
           · rw [if_neg q2, if_neg q2]
         · rw [if_neg q1, if_neg q1]
       · rw [if_neg (by omega), if_neg c3]
end Go.Proofs.YtloccjkcmlkifaaDoor
end

section
/- The document's way of reading a text, and the program's: the same. -/
namespace Go.Proofs.YtloccjkcmlkifaaDoor
open Go.RowKit Go.Proofs.YtloccjkcmlkifaaDoor.PAll Go.Proofs.YtloccjkcmlkifaaDoorW.PrintWords

theorem gb_elem (s : ByteArray) (i : Nat) (h : i < s.size) : gb s i = (s[i]'h).toNat := by
 unfold gb
 have e : s.get! i = s[i]'h := by simp [ByteArray.get!, getElem!_pos, h]; rfl
 rw [e]

theorem okSeq_fffd (s : ByteArray) (pos : Nat) (hp : pos ≤ s.size) : okSeq s pos 65533 = true ↔ pos + 3 ≤ s.size ∧ gb s pos = 239 ∧ gb s (pos + 1) = 191 ∧ gb s (pos + 2) = 189 := by
 unfold okSeq
 rw [if_pos rfl]
 have hsz : (s.extract pos s.size).size = s.size - pos := by rw [ByteArray.size_extract]; omega
 rw [hsz]
 by_cases h3 : 3 ≤ s.size - pos
 · rw [if_pos h3]
   have e : ((s.extract pos s.size).extract 0 3).data = #[s[pos]'(by omega), s[pos + 1]'(by omega), s[pos + 2]'(by omega)] := by
    rw [ByteArray.data_extract, ByteArray.data_extract]
    apply Array.ext
    · simp; omega
    · intro i h1 h2
      simp only [List.size_toArray, List.length_cons, List.length_nil] at h2
      have : i = 0 ∨ i = 1 ∨ i = 2 := by omega
      rcases this with rfl | rfl | rfl <;> simp <;> rfl
   have e2 : ((s.extract pos s.size).extract 0 3).toList = [s[pos]'(by omega), s[pos + 1]'(by omega), s[pos + 2]'(by omega)] := by
    rw [ByteArray.toList_eq, e]
   have e3 : (⟨#[239, 191, 189]⟩ : ByteArray).toList = [239, 191, 189] := by rw [ByteArray.toList_eq]
   rw [e2, e3, gb_elem s pos (by omega), gb_elem s (pos + 1) (by omega), gb_elem s (pos + 2) (by omega)]
   simp only [beq_iff_eq, List.cons.injEq, and_true, ← UInt8.toNat_inj]
   constructor
   · rintro ⟨a, b, c⟩
     exact ⟨by omega, a, b, c⟩
   · rintro ⟨_, a, b, c⟩
     exact ⟨a, b, c⟩
 · rw [if_neg h3]
   constructor
   · intro h; cases h
   · rintro ⟨h, _⟩; omega
theorem okSeq_other (s : ByteArray) (pos : Nat) (c : Int) (h : c ≠ 65533) : okSeq s pos c = true := by unfold okSeq; rw [if_neg h]

theorem valid_iff (c : Nat) : Utf8.valid (c : Int) = true ↔ ¬ (1114111 < (c : Int) ∨ (55296 ≤ (c : Int) ∧ (c : Int) ≤ 57343)) := by
 unfold Utf8.valid
 simp only [Bool.or_eq_true, Bool.and_eq_true, decide_eq_true_eq]
 omega
set_option maxHeartbeats 2000000 in
theorem seq_decode (s : ByteArray) (pos : Nat) (h : pos < s.size) :
 (okSeq s pos (Utf8.decode s pos).1 = true ∧ seqR s pos = (((Utf8.decode s pos).1 : Int), ((Utf8.decode s pos).2 : Int)) ∧ 1 ≤ (Utf8.decode s pos).2 ∧ (Utf8.decode s pos).1 ≤ 1114111) ∨
 (okSeq s pos (Utf8.decode s pos).1 = false ∧ seqR s pos = (0, 0)) := by
 have hb := gb_lt s pos; have g1 := gb_lt s (pos + 1); have g2 := gb_lt s (pos + 2); have g3 := gb_lt s (pos + 3)
 have hF := okSeq_fffd s pos (by omega)
 have bad : ∀ q : Nat × Nat, q = (65533, 1) → Utf8.decode s pos = q → ¬ (pos + 3 ≤ s.size ∧ gb s pos = 239 ∧ gb s (pos + 1) = 191 ∧ gb s (pos + 2) = 189) → seqR s pos = (0, 0) →
  (okSeq s pos (Utf8.decode s pos).1 = true ∧ seqR s pos = (((Utf8.decode s pos).1 : Int), ((Utf8.decode s pos).2 : Int)) ∧ 1 ≤ (Utf8.decode s pos).2 ∧ (Utf8.decode s pos).1 ≤ 1114111) ∨
  (okSeq s pos (Utf8.decode s pos).1 = false ∧ seqR s pos = (0, 0)) := by
  intro q hq e hn hs
  right
  rw [e, hq]
  refine ⟨?_, hs⟩
  cases hh : okSeq s pos ((65533 : Nat) : Int) with
  | false => rfl
  | true => exact absurd (hF.1 hh) hn
 have good : ∀ c n : Nat, Utf8.decode s pos = (c, n) → seqR s pos = ((c : Int), (n : Int)) → 1 ≤ n → c ≤ 1114111 → (c = 65533 → pos + 3 ≤ s.size ∧ gb s pos = 239 ∧ gb s (pos + 1) = 191 ∧ gb s (pos + 2) = 189) →
  (okSeq s pos (Utf8.decode s pos).1 = true ∧ seqR s pos = (((Utf8.decode s pos).1 : Int), ((Utf8.decode s pos).2 : Int)) ∧ 1 ≤ (Utf8.decode s pos).2 ∧ (Utf8.decode s pos).1 ≤ 1114111) ∨
  (okSeq s pos (Utf8.decode s pos).1 = false ∧ seqR s pos = (0, 0)) := by
  intro c n e hs hn hc hf
  left
  rw [e]
  refine ⟨?_, hs, hn, hc⟩
  by_cases h5 : c = 65533
  · subst h5; exact hF.2 (hf rfl)
  · exact okSeq_other s pos _ (by show (c : Int) ≠ 65533; omega)
 have hd : Utf8.decode s pos = (if gb s pos < 128 then (gb s pos, 1)
  else if (gb s pos / 32 == 6 && contB s pos 1) = true then (if gb s pos % 32 * 64 + gb s (pos + 1) % 64 ≥ 128 then (gb s pos % 32 * 64 + gb s (pos + 1) % 64, 2) else (65533, 1))
  else if (gb s pos / 16 == 14 && contB s pos 1 && contB s pos 2) = true then (if (decide (gb s pos % 16 * 4096 + gb s (pos + 1) % 64 * 64 + gb s (pos + 2) % 64 ≥ 2048) && Utf8.valid ((gb s pos % 16 * 4096 + gb s (pos + 1) % 64 * 64 + gb s (pos + 2) % 64 : Nat) : Int)) = true then (gb s pos % 16 * 4096 + gb s (pos + 1) % 64 * 64 + gb s (pos + 2) % 64, 3) else (65533, 1))
  else if (gb s pos / 8 == 30 && contB s pos 1 && contB s pos 2 && contB s pos 3) = true then (if (decide (gb s pos % 8 * 262144 + gb s (pos + 1) % 64 * 4096 + gb s (pos + 2) % 64 * 64 + gb s (pos + 3) % 64 ≥ 65536) && Utf8.valid ((gb s pos % 8 * 262144 + gb s (pos + 1) % 64 * 4096 + gb s (pos + 2) % 64 * 64 + gb s (pos + 3) % 64 : Nat) : Int)) = true then (gb s pos % 8 * 262144 + gb s (pos + 1) % 64 * 4096 + gb s (pos + 2) % 64 * 64 + gb s (pos + 3) % 64, 4) else (65533, 1))
  else (65533, 1)) := rfl
 by_cases c0 : gb s pos < 128
 · refine good _ _ (by rw [hd, if_pos c0]) ?_ (Nat.le_refl _) (by omega) (by omega)
   unfold seqR
   simp only
   rw [if_pos c0]
   rfl
 · have hs := Eq.refl (seqR s pos)
   conv at hs => rhs; unfold seqR
   simp only at hs
   rw [if_neg c0] at hs hd
   by_cases c1 : gb s pos / 32 = 6
   · have n14 : ¬ gb s pos / 16 = 14 := by omega
     have n30 : ¬ gb s pos / 8 = 30 := by omega
     have q14 : (gb s pos / 16 == 14) = false := beq_false_of_ne n14
     have q30 : (gb s pos / 8 == 30) = false := beq_false_of_ne n30
     have q6 : (gb s pos / 32 == 6) = true := beq_iff_eq.2 c1
     rw [if_pos c1] at hs
     rw [q6, q14, q30] at hd
     by_cases t1 : contB s pos 1 = true
     · rw [t1] at hd hs
       simp only [Bool.and_self, if_true] at hd hs
       by_cases l1 : gb s pos % 32 * 64 + gb s (pos + 1) % 64 ≥ 128
       · rw [if_pos l1] at hd
         rw [if_neg (by omega)] at hs
         exact good _ _ hd (by rw [hs]; refine Prod.ext ?_ rfl; show (_ : Int) = _; omega) (by omega) (by omega) (by omega)
       · rw [if_neg l1] at hd
         rw [if_pos (by omega)] at hs
         exact bad _ rfl hd (by omega) hs
     · rw [Bool.not_eq_true] at t1
       rw [t1] at hd hs
       simp only [Bool.and_false, Bool.false_and, Bool.false_eq_true, if_false] at hd hs
       exact bad _ rfl hd (by omega) hs
   · have q6 : (gb s pos / 32 == 6) = false := beq_false_of_ne c1
     rw [if_neg c1] at hs
     rw [q6] at hd
     simp only [Bool.false_and, Bool.false_eq_true, if_false] at hd
     by_cases c2 : gb s pos / 16 = 14
     · have n30 : ¬ gb s pos / 8 = 30 := by omega
       have q14 : (gb s pos / 16 == 14) = true := beq_iff_eq.2 c2
       have q30 : (gb s pos / 8 == 30) = false := beq_false_of_ne n30
       rw [if_pos c2] at hs
       rw [q14, q30] at hd
       by_cases t1 : contB s pos 1 = true
       · by_cases t2 : contB s pos 2 = true
         · rw [t1, t2] at hd hs
           simp only [Bool.and_self, if_true] at hd hs
           have p2 : pos + 2 < s.size ∧ gb s (pos + 2) / 64 = 2 := by simpa [contB] using t2
           have p1 : pos + 1 < s.size ∧ gb s (pos + 1) / 64 = 2 := by simpa [contB] using t1
           by_cases l1 : 2048 ≤ gb s pos % 16 * 4096 + gb s (pos + 1) % 64 * 64 + gb s (pos + 2) % 64 ∧ Utf8.valid ((gb s pos % 16 * 4096 + gb s (pos + 1) % 64 * 64 + gb s (pos + 2) % 64 : Nat) : Int) = true
           · have hv := (valid_iff _).1 l1.2
             rw [if_pos (by simp only [Bool.and_eq_true, decide_eq_true_eq]; exact l1)] at hd
             rw [if_neg (by omega)] at hs
             exact good _ _ hd (by rw [hs]; refine Prod.ext ?_ rfl; show (_ : Int) = _; omega) (by omega) (by omega) (by omega)
           · rw [if_neg (by simp only [Bool.and_eq_true, decide_eq_true_eq]; exact l1)] at hd
             rw [valid_iff] at l1
             rw [if_pos (by omega)] at hs
             exact bad _ rfl hd (by omega) hs
         · rw [Bool.not_eq_true] at t2
           rw [t1, t2] at hd hs
           simp only [Bool.and_false, Bool.and_true, Bool.false_and, Bool.false_eq_true, if_false, if_true] at hd hs
           refine bad _ rfl hd (fun hx => ?_) hs
           have : contB s pos 2 = true := by unfold contB; simp only [Bool.and_eq_true, decide_eq_true_eq, beq_iff_eq]; omega
           rw [this] at t2; cases t2
       · rw [Bool.not_eq_true] at t1
         rw [t1] at hd hs
         simp only [Bool.and_false, Bool.false_and, Bool.false_eq_true, if_false] at hd hs
         refine bad _ rfl hd (fun hx => ?_) hs
         have : contB s pos 1 = true := by unfold contB; simp only [Bool.and_eq_true, decide_eq_true_eq, beq_iff_eq]; omega
         rw [this] at t1; cases t1
     · have q14 : (gb s pos / 16 == 14) = false := beq_false_of_ne c2
       rw [if_neg c2] at hs
       rw [q14] at hd
       simp only [Bool.false_and, Bool.false_eq_true, if_false] at hd
       by_cases c3 : gb s pos / 8 = 30
       · have q30 : (gb s pos / 8 == 30) = true := beq_iff_eq.2 c3
         rw [if_pos c3] at hs
         rw [q30] at hd
         by_cases t1 : contB s pos 1 = true
         · by_cases t2 : contB s pos 2 = true
           · by_cases t3 : contB s pos 3 = true
             · rw [t1, t2, t3] at hd hs
               simp only [Bool.and_self, if_true] at hd hs
               by_cases l1 : 65536 ≤ gb s pos % 8 * 262144 + gb s (pos + 1) % 64 * 4096 + gb s (pos + 2) % 64 * 64 + gb s (pos + 3) % 64 ∧ Utf8.valid ((gb s pos % 8 * 262144 + gb s (pos + 1) % 64 * 4096 + gb s (pos + 2) % 64 * 64 + gb s (pos + 3) % 64 : Nat) : Int) = true
               · have hv := (valid_iff _).1 l1.2
                 rw [if_pos (by simp only [Bool.and_eq_true, decide_eq_true_eq]; exact l1)] at hd
                 rw [if_neg (by omega)] at hs
                 exact good _ _ hd (by rw [hs]; refine Prod.ext ?_ rfl; show (_ : Int) = _; omega) (by omega) (by omega) (by omega)
               · rw [if_neg (by simp only [Bool.and_eq_true, decide_eq_true_eq]; exact l1)] at hd
                 rw [valid_iff] at l1
                 rw [if_pos (by omega)] at hs
                 exact bad _ rfl hd (by omega) hs
             · rw [Bool.not_eq_true] at t3
               rw [t1, t2, t3] at hd hs
               simp only [Bool.and_false, Bool.and_true, Bool.false_eq_true, if_false, if_true] at hd hs
               exact bad _ rfl hd (by omega) hs
           · rw [Bool.not_eq_true] at t2
             rw [t1, t2] at hd hs
             simp only [Bool.and_false, Bool.and_true, Bool.false_and, Bool.false_eq_true, if_false, if_true] at hd hs
             exact bad _ rfl hd (by omega) hs
         · rw [Bool.not_eq_true] at t1
           rw [t1] at hd hs
           simp only [Bool.and_false, Bool.false_and, Bool.false_eq_true, if_false] at hd hs
           exact bad _ rfl hd (by omega) hs
       · have q30 : (gb s pos / 8 == 30) = false := beq_false_of_ne c3
         rw [if_neg c3] at hs
         rw [q30] at hd
         simp only [Bool.false_and, Bool.false_eq_true, if_false] at hd
         exact bad _ rfl hd (by omega) hs

theorem and_i32_nat (x y : Nat) (hx : x < 2147483648) (hy : y < 2147483648) : Go.bits .and .i32 (x : Int) (y : Int) = ((x &&& y : Nat) : Int) := by
 show IntKind.i32.wrap ((BitVec.ofInt 32 (x : Int) &&& BitVec.ofInt 32 (y : Int)).toNat : Int) = _
 rw [BitVec.toNat_and, ofInt_u32 x (by omega), ofInt_u32 y (by omega)]
 exact Lib.wrap_i32_small _ (Nat.lt_of_le_of_lt Nat.and_le_left hx)
theorem and65535_i32 (x : Nat) (h : x < 2147483648) : Go.bits .and .i32 (x : Int) 65535 = ((x % 65536 : Nat) : Int) := by
 obtain ⟨m, hm⟩ : ∃ m : Nat, m = 65535 := ⟨_, rfl⟩
 have e : (65535 : Int) = (m : Int) := by omega
 have h2 : x &&& m = x % 65536 := by
  rw [hm]
  have := Nat.and_two_pow_sub_one_eq_mod x 16
  simpa using this
 rw [e, and_i32_nat x m h (by omega), h2]
theorem okRune_is (c : Nat) (h : c ≤ 1114111) : okRune (c : Int) = (decide (c = 9 ∨ c = 10 ∨ ¬ (c < 32 ∨ (127 ≤ c ∧ c < 160) ∨ c = 65279 ∨ (64976 ≤ c ∧ c ≤ 65007))) && decide (c % 65536 < 65534)) := by
 unfold okRune barsL
 rw [and65535_i32 c (by omega)]
 have e : decide (((c % 65536 : Nat) : Int) < 65534) = decide (c % 65536 < 65534) := by
  rw [Bool.eq_iff_iff]; simp only [decide_eq_true_eq]; omega
 rw [e]
 generalize decide (c % 65536 < 65534) = d
 refine congrArg (fun b => b && d) ?_
 simp only [List.all_cons, List.all_nil, Bool.and_true]
 rw [Bool.eq_iff_iff]
 simp only [Bool.and_eq_true, Bool.not_eq_true', Bool.and_eq_false_iff, decide_eq_true_eq, decide_eq_false_iff_not]
 omega
theorem letIn_is (k c : Nat) (h : c ≤ 1114111) : redraftref01_LetIn.f (k + 1) (c : Int) = some (okRune (c : Int)) := by
 rw [okRune_is c h]
 have e : Int.tmod (c : Int) 65536 = ((c % 65536 : Nat) : Int) := by rw [Int.tmod_eq_emod_of_nonneg (by omega)]; rfl
 have e2 : decide (((c % 65536 : Nat) : Int) < 65534) = decide (c % 65536 < 65534) := by
  rw [Bool.eq_iff_iff]; simp only [decide_eq_true_eq]; omega
 unfold redraftref01_LetIn.f
 by_cases c9 : c = 9
 · subst c9; rfl
 · rw [if_neg (by omega), redraftref01_LetIn.j0]
   by_cases c10 : c = 10
   · subst c10; rfl
   · rw [if_neg (by simp; omega), e, e2]
     by_cases a1 : c < 32
     · rw [if_pos (by omega)]; simp [a1, c9, c10]
     · rw [if_neg (by omega)]
       by_cases a2 : 127 ≤ c
       · rw [if_pos (by omega)]
         by_cases a3 : c < 160
         · rw [if_pos (by omega)]; simp [a1, a2, a3, c9, c10]
         · rw [if_neg (by omega)]
           by_cases a4 : c = 65279
           · subst a4; rfl
           · rw [if_neg (by omega)]
             by_cases a5 : 64976 ≤ c
             · rw [if_pos (by omega)]
               by_cases a6 : c ≤ 65007
               · rw [if_pos (by omega)]; simp [a1, a2, a3, a4, a5, a6, c9, c10]
               · rw [if_neg (by omega)]; simp [a1, a3, a4, a6]
             · rw [if_neg (by omega)]; simp [a1, a3, a4, a5]
       · rw [if_neg (by omega), if_neg (by omega), if_neg (by omega)]
         have : ¬ 64976 ≤ c := by omega
         have : ¬ c = 65279 := by omega
         simp [*]
end Go.Proofs.YtloccjkcmlkifaaDoor
end

section
/- utext.Check and the document's Check of a text answer alike. -/
namespace Go.Proofs.YtloccjkcmlkifaaDoor
open Go.RowKit Go.Proofs.YtloccjkcmlkifaaDoor.PAll Go.Proofs.YtloccjkcmlkifaaDoorW.PrintWords

theorem decode_four (s : ByteArray) (pos : Nat) : (Utf8.decode s pos).2 ≤ 4 := by
 simp only [Utf8.decode]
 repeat' split
 all_goals simp
theorem chk_succ (s : ByteArray) (f pos : Nat) (n : Int) (h : pos < s.size) : chkFrom s (f + 1) pos n = if okSeq s pos (Utf8.decode s pos).1 then (if okRune (Utf8.decode s pos).1 then chkFrom s f (pos + (Utf8.decode s pos).2) (wrap64 (n + 1)) else (0, pos, 11)) else (0, pos, 10) := by
 rw [chkFrom, if_pos h]

theorem runes_loop (s : ByteArray) (hs : s.size ≤ 1048576) : ∀ (d k pos f : Nat) (acc : List Int), s.size - pos ≤ d → pos ≤ s.size + 4 → s.size - pos ≤ f → acc.length ≤ pos → d + 9 ≤ k →
 ∃ l p e, redraftref01_Runes.l0 k s acc pos = some (l, p, e) ∧ ((l.length : Int), p, e) = chkFrom s f pos acc.length := by
 intro d
 induction d with
 | zero =>
  intro k pos f acc h1 h2 h3 h4 hk
  obtain ⟨k, rfl⟩ : ∃ m, k = m + 1 := ⟨k - 1, by omega⟩
  refine ⟨acc, 0, 0, ?_, by rw [chk_end s f pos _ (by omega)]⟩
  rw [redraftref01_Runes.l0, if_neg (by omega)]
 | succ d ih =>
  intro k pos f acc h1 h2 h3 h4 hk
  obtain ⟨k, rfl⟩ : ∃ m, k = m + 9 := ⟨k - 9, by omega⟩
  by_cases hp : pos < s.size
  · obtain ⟨f, rfl⟩ : ∃ m, f = m + 1 := ⟨f - 1, by omega⟩
    rw [chk_succ s f pos _ hp]
    rw [show k + 9 = (k + 8) + 1 from rfl, redraftref01_Runes.l0, if_pos (by omega), seq_is k s pos hp (by omega)]
    simp only [Option.bind_some]
    have h5 := decode_four s pos
    rcases seq_decode s pos hp with ⟨hok, hq, hn, hc⟩ | ⟨hok, hq⟩
    · rw [hok, hq]
      simp only [if_true]
      rw [if_neg (by omega), show k + 8 = (k + 7) + 1 from rfl, letIn_is (k + 7) _ hc]
      simp only [Option.bind_some]
      by_cases hr : okRune ((Utf8.decode s pos).1 : Int) = true
      · rw [hr]
        simp only [if_true]
        have w1 : wrap64 ((pos : Int) + ((Utf8.decode s pos).2 : Int)) = ((pos + (Utf8.decode s pos).2 : Nat) : Int) := by rw [wrap_id (by omega) (by omega)]; omega
        have w2 : wrap64 ((acc.length : Int) + 1) = (((acc ++ [((Utf8.decode s pos).1 : Int)]).length : Nat) : Int) := by rw [wrap_id (by omega) (by omega), List.length_append, List.length_singleton]; omega
        rw [if_pos (by omega), w1, w2]
        exact ih (k + 7 + 1) _ f _ (by omega) (by omega) (by omega) (by rw [List.length_append, List.length_singleton]; omega) (by omega)
      · rw [Bool.not_eq_true] at hr
        rw [hr]
        simp only [Bool.false_eq_true, if_false]
        exact ⟨[], _, 11, rfl, rfl⟩
    · rw [hok, hq]
      simp only [if_true, Bool.false_eq_true, if_false]
      exact ⟨[], _, 10, rfl, rfl⟩
  · refine ⟨acc, 0, 0, ?_, by rw [chk_end s f pos _ (by omega)]⟩
    rw [show k + 9 = (k + 8) + 1 from rfl, redraftref01_Runes.l0, if_neg (by omega)]

def chk (s : ByteArray) : Int × Int × Int := chkFrom s s.size 0 0
theorem ref_chk (s : ByteArray) (hs : s.size ≤ 1048576) : Ev (fun k => redraftref01_Check.f k s) (chk s) := by
 refine ⟨s.size + 9, fun k hk => ?_⟩
 obtain ⟨l, p, e, h1, h2⟩ := runes_loop s hs s.size k 0 s.size [] (by omega) (by omega) (by omega) (by simp) hk
 simp only [redraftref01_Check.f, redraftref01_Runes.f]
 have h3 : redraftref01_Runes.l0 k s [] 0 = some (l, p, e) := h1
 rw [h3]
 simp only [Option.bind_some]
 rw [h2]
 rfl
theorem chk_f (s : ByteArray) : utext_Check.f s = some (chk s) := rfl

theorem chk_bound (s : ByteArray) (hs : s.size ≤ 1048576) : 0 ≤ (chk s).1 ∧ (chk s).1 ≤ s.size := by
 have : ∀ (f pos : Nat) (n : Int), 0 ≤ n → n ≤ pos → pos + f ≤ s.size → 0 ≤ (chkFrom s f pos n).1 ∧ (chkFrom s f pos n).1 ≤ s.size := by
  intro f
  induction f with
  | zero => intro pos n h0 h1 h2; exact ⟨h0, by show n ≤ _; omega⟩
  | succ f ih =>
   intro pos n h0 h1 h2
   rw [chk_succ s f pos n (by omega)]
   split
   · split
     · have hw := width_pos s pos (by omega)
       have h5 := decode_four s pos
       by_cases hp : pos + (Utf8.decode s pos).2 + f ≤ s.size
       · exact ih _ _ (by rw [wrap_id (by omega) (by omega)]; omega) (by rw [wrap_id (by omega) (by omega)]; omega) hp
       · -- fewer rounds than bytes are left: the end comes first
         have key : ∀ (g q : Nat) (m : Int), 0 ≤ m → m + g ≤ s.size → 0 ≤ (chkFrom s g q m).1 ∧ (chkFrom s g q m).1 ≤ s.size := by
          intro g
          induction g with
          | zero => intro q m h0 h1; exact ⟨h0, by show m ≤ _; omega⟩
          | succ g ih2 =>
           intro q m h0 h1
           by_cases hq : q < s.size
           · rw [chk_succ s g q m hq]
             split
             · split
               · exact ih2 _ _ (by rw [wrap_id (by omega) (by omega)]; omega) (by rw [wrap_id (by omega) (by omega)]; omega)
               · exact ⟨Int.le_refl _, by show (0 : Int) ≤ _; omega⟩
             · exact ⟨Int.le_refl _, by show (0 : Int) ≤ _; omega⟩
           · rw [chk_end s _ q m hq]; exact ⟨h0, by show m ≤ _; omega⟩
         exact key f _ _ (by rw [wrap_id (by omega) (by omega)]; omega) (by rw [wrap_id (by omega) (by omega)]; omega)
     · exact ⟨Int.le_refl _, by show (0 : Int) ≤ _; omega⟩
   · exact ⟨Int.le_refl _, by show (0 : Int) ≤ _; omega⟩
 exact this s.size 0 0 (by omega) (by omega) (by omega)
end Go.Proofs.YtloccjkcmlkifaaDoor
end

section
/- An operation's own error: the program's and the document's are alike. -/
namespace Go.Proofs.YtloccjkcmlkifaaDoor
open Go.RowKit Go.Proofs.YtloccjkcmlkifaaDoor.PAll Go.Proofs.YtloccjkcmlkifaaDoorW.PrintWords

def rngFrom (l : List S94) : Nat → Nat → Int × Int
 | 0, _ => (0, 0)
 | d + 1, i => if i < l.length then (if (l.getD i z94).f0 < 0 ∨ 1048576 < (l.getD i z94).f1 ∨ (l.getD i z94).f1 ≤ (l.getD i z94).f0 then ((i : Int), 20) else if 0 < i ∧ (l.getD i z94).f0 ≤ (l.getD (i - 1) z94).f1 then ((i : Int), 22) else rngFrom l d (i + 1)) else (0, 0)
def rngE (l : List S94) : Int × Int := if 32768 < l.length then (32768, 21) else rngFrom l l.length 0

theorem span_loop (l : List S94) (hl : l.length ≤ 32768) : ∀ (d k i : Nat), l.length - i ≤ d → i ≤ l.length → 2 * d + 2 ≤ k → span_Check.l0 k l l (l.length : Int) (i : Int) = some (rngFrom l d i) := by
 intro d
 induction d with
 | zero =>
  intro k i h1 h2 hk
  obtain ⟨k, rfl⟩ : ∃ m, k = m + 1 := ⟨k - 1, by omega⟩
  rw [span_Check.l0, if_neg (by omega)]
  rfl
 | succ d ih =>
  intro k i h1 h2 hk
  obtain ⟨k, rfl⟩ : ∃ m, k = m + 2 := ⟨k - 2, by omega⟩
  rw [show k + 2 = (k + 1) + 1 from rfl, span_Check.l0, rngFrom]
  have e : rd_T94 l (i : Int) = l.getD i z94 := by unfold rd_T94; rw [Int.toNat_natCast]
  by_cases hi : i < l.length
  · rw [if_pos (by omega), if_pos (by omega), if_pos (by omega), if_pos hi, e]
    by_cases c1 : (l.getD i z94).f0 < 0
    · rw [if_pos c1, if_pos (.inl c1), span_Check.j1, if_pos rfl]
    · rw [if_neg c1]
      by_cases c2 : (l.getD i z94).f1 > 1048576
      · rw [if_pos c2, if_pos (.inr (.inl c2)), span_Check.j1, if_pos rfl]
      · rw [if_neg c2, span_Check.j1]
        by_cases c3 : (l.getD i z94).f0 ≥ (l.getD i z94).f1
        · rw [if_pos (decide_eq_true c3), if_pos (.inr (.inr c3))]
        · rw [if_neg (by rw [decide_eq_false c3]; simp), if_neg (show ¬ ((l.getD i z94).f0 < 0 ∨ 1048576 < (l.getD i z94).f1 ∨ (l.getD i z94).f1 ≤ (l.getD i z94).f0) by omega)]
          have w1 : wrap64 ((i : Int) + 1) = ((i + 1 : Nat) : Int) := by rw [wrap_id (by omega) (by omega)]; omega
          rw [w1, ih k (i + 1) (by omega) (by omega) (by omega)]
          by_cases c4 : 0 < i
          · have w2 : wrap64 ((i : Int) - 1) = ((i - 1 : Nat) : Int) := by rw [wrap_id (by omega) (by omega)]; omega
            have e2 : rd_T94 l ((i - 1 : Nat) : Int) = l.getD (i - 1) z94 := by unfold rd_T94; rw [Int.toNat_natCast]
            rw [if_pos (by omega), w2, if_pos (by omega), if_pos (by omega), e2]
            by_cases c5 : (l.getD i z94).f0 ≤ (l.getD (i - 1) z94).f1
            · rw [if_pos c5, if_pos ⟨c4, c5⟩]
            · rw [if_neg c5, if_neg (fun h => c5 h.2)]
          · rw [if_neg (by omega), if_neg (fun h => c4 h.1)]
  · rw [if_neg (by omega), if_neg hi]
theorem span_chk (l : List S94) : Ev (fun k => span_Check.f k l) (rngE l) := by
 refine ⟨2 * l.length + 2, fun k hk => ?_⟩
 simp only [span_Check.f, rngE]
 by_cases h : 32768 < l.length
 · rw [if_pos (by omega), if_pos h]
 · rw [if_neg (by omega), if_neg h]
   exact span_loop l (by omega) l.length k 0 (by omega) (by omega) hk

theorem ref_rng_loop (l : List S94) (hl : l.length ≤ 32768) : ∀ (d k i : Nat), l.length - i ≤ d → i ≤ l.length → 2 * d + 2 ≤ k → redraftref02_Check.l0 k l (i : Int) = some (rngFrom l d i) := by
 intro d
 induction d with
 | zero =>
  intro k i h1 h2 hk
  obtain ⟨k, rfl⟩ : ∃ m, k = m + 1 := ⟨k - 1, by omega⟩
  rw [redraftref02_Check.l0, if_neg (by omega)]
  rfl
 | succ d ih =>
  intro k i h1 h2 hk
  obtain ⟨k, rfl⟩ : ∃ m, k = m + 2 := ⟨k - 2, by omega⟩
  rw [show k + 2 = (k + 1) + 1 from rfl, redraftref02_Check.l0, rngFrom]
  have e : rd_T94 l (i : Int) = l.getD i z94 := by unfold rd_T94; rw [Int.toNat_natCast]
  by_cases hi : i < l.length
  · rw [if_pos (by omega), if_pos (by omega), if_pos hi, e]
    by_cases c1 : (l.getD i z94).f0 < 0
    · rw [if_pos c1, if_pos (.inl c1), redraftref02_Check.j1, if_pos rfl]
    · rw [if_neg c1]
      by_cases c2 : (l.getD i z94).f1 > 1048576
      · rw [if_pos c2, if_pos (.inr (.inl c2)), redraftref02_Check.j1, if_pos rfl]
      · rw [if_neg c2, redraftref02_Check.j1]
        by_cases c3 : (l.getD i z94).f0 ≥ (l.getD i z94).f1
        · rw [if_pos (decide_eq_true c3), if_pos (.inr (.inr c3))]
        · rw [if_neg (by rw [decide_eq_false c3]; simp), if_neg (show ¬ ((l.getD i z94).f0 < 0 ∨ 1048576 < (l.getD i z94).f1 ∨ (l.getD i z94).f1 ≤ (l.getD i z94).f0) by omega)]
          have w1 : wrap64 ((i : Int) + 1) = ((i + 1 : Nat) : Int) := by rw [wrap_id (by omega) (by omega)]; omega
          rw [w1, ih k (i + 1) (by omega) (by omega) (by omega)]
          by_cases c4 : 0 < i
          · have w2 : wrap64 ((i : Int) - 1) = ((i - 1 : Nat) : Int) := by rw [wrap_id (by omega) (by omega)]; omega
            have e2 : rd_T94 l ((i - 1 : Nat) : Int) = l.getD (i - 1) z94 := by unfold rd_T94; rw [Int.toNat_natCast]
            rw [if_pos (by omega), if_pos (by omega), if_pos (by omega), w2, if_pos (by omega), if_pos (by omega), e2, e]
            by_cases c5 : (l.getD i z94).f0 ≤ (l.getD (i - 1) z94).f1
            · rw [if_pos c5, if_pos ⟨c4, c5⟩]
            · rw [if_neg c5, if_neg (fun h => c5 h.2)]
          · rw [if_neg (by omega), if_neg (fun h => c4 h.1)]
  · rw [if_neg (by omega), if_neg hi]
theorem ref_rng (l : List S94) : Ev (fun k => redraftref02_Check.f k l) (rngE l) := by
 refine ⟨2 * l.length + 2, fun k hk => ?_⟩
 simp only [redraftref02_Check.f, rngE]
 by_cases h : 32768 < l.length
 · rw [if_pos (by omega), if_pos h]
 · rw [if_neg (by omega), if_neg h]
   exact ref_rng_loop l (by omega) l.length k 0 (by omega) (by omega) hk

def isID (a b : Int) : Bool := decide (1 ≤ a ∧ a ≤ 8 ∧ 1 ≤ b ∧ b ≤ 1024)
theorem right_is (a b : Int) : op_right.f a b = some (isID a b) := by
 unfold op_right.f isID
 by_cases h1 : 1 ≤ a <;> by_cases h2 : a ≤ 8 <;> by_cases h3 : 1 ≤ b <;> by_cases h4 : b ≤ 1024 <;> simp [h1, h2, h3, h4]
theorem isID_is (a b : Int) : redraftref04_IsID.f a b = some (isID a b) := right_is a b
theorem none_is (a b : Int) : redraftref04_none.f a b = some (decide (a = 0 ∧ b = 0)) := by
 unfold redraftref04_none.f
 by_cases h1 : a = 0 <;> by_cases h2 : b = 0 <;> simp [h1, h2]

def extraB (o : S41) : Bool := decide ((o.f0.f1 ≠ 1 ∧ (o.f1 ≠ 0 ∨ o.f2.toList ≠ [])) ∨ (o.f0.f1 ≠ 2 ∧ o.f0.f1 ≠ 3 ∧ o.f3.length ≠ 0) ∨ (o.f0.f1 ≠ 4 ∧ (o.f4.f0 ≠ 0 ∨ o.f4.f1 ≠ 0 ∨ o.f5 = true)))
theorem extra_is (o : S41) : op_extra.f o.f0.f0.f0 o.f0.f0.f1 o.f0.f1 o.f1 o.f2 o.f3 o.f4.f0 o.f4.f1 o.f5 = some (extraB o) := by
 obtain ⟨⟨⟨a, b⟩, kd⟩, at', tx, rg, ⟨t0, t1⟩, on⟩ := o
 unfold op_extra.f extraB
 simp only
 by_cases k1 : kd = 1
 · subst k1
   by_cases r : rg.length = 0 <;> by_cases h0 : t0 = 0 <;> by_cases h1 : t1 = 0 <;> cases on <;> simp_all <;> omega
 · by_cases k2 : kd = 2
   · subst k2
     by_cases p : at' = 0 <;> by_cases q : tx.toList = [] <;> by_cases h0 : t0 = 0 <;> by_cases h1 : t1 = 0 <;> cases on <;> simp_all
   · by_cases k3 : kd = 3
     · subst k3
       by_cases p : at' = 0 <;> by_cases q : tx.toList = [] <;> by_cases h0 : t0 = 0 <;> by_cases h1 : t1 = 0 <;> cases on <;> simp_all
     · by_cases k4 : kd = 4
       · subst k4
         by_cases p : at' = 0 <;> by_cases q : tx.toList = [] <;> by_cases r : rg.length = 0 <;> simp_all <;> omega
       · by_cases p : at' = 0 <;> by_cases q : tx.toList = [] <;> by_cases r : rg.length = 0 <;> by_cases h0 : t0 = 0 <;> by_cases h1 : t1 = 0 <;> cases on <;> simp_all <;> omega

theorem rextra_is (o : S41) (hk : 1 ≤ o.f0.f1 ∧ o.f0.f1 ≤ 4) : redraftref04_extra.f o.f0.f0.f0 o.f0.f0.f1 o.f0.f1 o.f1 o.f2 o.f3 o.f4.f0 o.f4.f1 o.f5 = some (extraB o) := by
 obtain ⟨⟨⟨a, b⟩, kd⟩, at', tx, rg, ⟨t0, t1⟩, on⟩ := o
 unfold redraftref04_extra.f extraB
 simp only at hk ⊢
 have : kd = 1 ∨ kd = 2 ∨ kd = 3 ∨ kd = 4 := by omega
 have hr : ¬ rg.length = 0 → (rg.length : Int) > 0 := fun h => by omega
 rcases this with rfl | rfl | rfl | rfl
 · by_cases r : rg.length = 0
   · obtain rfl : rg = [] := List.eq_nil_of_length_eq_zero r
     by_cases p : at' = 0 <;> by_cases h0 : t0 = 0 <;> by_cases h1 : t1 = 0 <;> cases on <;> simp_all
   · have h := hr r
     by_cases p : at' = 0 <;> by_cases h0 : t0 = 0 <;> by_cases h1 : t1 = 0 <;> cases on <;> simp_all
 · by_cases p : at' = 0 <;> by_cases q : tx.toList = [] <;> by_cases h0 : t0 = 0 <;> by_cases h1 : t1 = 0 <;> cases on <;> simp_all
 · by_cases p : at' = 0 <;> by_cases q : tx.toList = [] <;> by_cases h0 : t0 = 0 <;> by_cases h1 : t1 = 0 <;> cases on <;> simp_all
 · by_cases r : rg.length = 0
   · obtain rfl : rg = [] := List.eq_nil_of_length_eq_zero r
     by_cases p : at' = 0 <;> by_cases q : tx.toList = [] <;> by_cases h0 : t0 = 0 <;> by_cases h1 : t1 = 0 <;> simp_all
   · have h := hr r
     by_cases p : at' = 0 <;> by_cases q : tx.toList = [] <;> by_cases h0 : t0 = 0 <;> by_cases h1 : t1 = 0 <;> simp_all

def insE (o : S41) (total : Int) : Int :=
 if (chk o.f2).2.2 = 0 then (if (chk o.f2).1 = 0 then 15 else if 256 < (chk o.f2).1 then 14 else if o.f1 < 0 ∨ total < o.f1 then 12 else if 1048576 < total + (chk o.f2).1 then 24 else 0) else (chk o.f2).2.2
def lastHi (l : List S94) : Int := (l.getD (l.length - 1) z94).f1
def rgsE (l : List S94) (total : Int) : Int := if l.length = 0 then 43 else if (rngE l).2 = 0 then (if total < lastHi l then 12 else 0) else (rngE l).2
def staE (o : S41) : Int := if isID o.f4.f0 o.f4.f1 = true ∧ ¬ (o.f4.f0 = o.f0.f0.f0 ∧ o.f4.f1 = o.f0.f0.f1) then 0 else 63
def badID (o : S41) : Prop := ¬ (o.f0.f0.f0 = 0 ∧ o.f0.f0.f1 = 0) ∧ isID o.f0.f0.f0 o.f0.f0.f1 = false
instance (o : S41) : Decidable (badID o) := by unfold badID; infer_instance
def checkE (o : S41) (total : Int) : Int :=
 if total < 0 ∨ 1048576 < total then 12 else if o.f0.f1 < 1 ∨ 4 < o.f0.f1 then 40 else if badID o then 41 else if extraB o = true then 42 else if o.f0.f1 = 1 then insE o total else if o.f0.f1 = 4 then staE o else rgsE o.f3 total
def totOf (o : S41) : Int := if o.f0.f1 = 1 ∧ 0 ≤ o.f1 ∧ o.f1 ≤ 1048576 then o.f1 else 1048576
def ownE (o : S41) : Int := checkE o (totOf o)

theorem ins_is (k : Nat) (o : S41) (total : Int) (ht : 0 ≤ total ∧ total ≤ 1048576) (hs : o.f2.size ≤ 1048576) : op_checkIns.f (k + 1) o.f0.f0.f0 o.f0.f0.f1 o.f0.f1 o.f1 o.f2 o.f3 o.f4.f0 o.f4.f1 o.f5 total = some (insE o total) := by
 have hb := chk_bound o.f2 hs
 unfold op_checkIns.f insE
 rw [chk_f]
 simp only [Option.bind_some]
 by_cases c1 : (chk o.f2).2.2 = 0
 · rw [if_pos c1, if_pos c1]
   by_cases c2 : (chk o.f2).1 = 0
   · rw [if_pos c2, if_pos c2]
   · rw [if_neg c2, if_neg c2]
     by_cases c3 : 256 < (chk o.f2).1
     · rw [if_pos (by omega), if_pos c3]
     · rw [if_neg (by omega), if_neg c3]
       have w : wrap64 (total + (chk o.f2).1) = total + (chk o.f2).1 := wrap_id (by omega) (by omega)
       by_cases c4 : o.f1 < 0
       · rw [if_pos c4, if_pos (Or.inl c4), op_checkIns.j0, if_pos rfl]
       · rw [if_neg c4, op_checkIns.j0]
         by_cases c5 : total < o.f1
         · rw [if_pos (decide_eq_true c5), if_pos (Or.inr c5)]
         · rw [if_neg (by rw [decide_eq_false (by omega)]; simp), if_neg (show ¬ (o.f1 < 0 ∨ total < o.f1) by omega), w]
           by_cases c6 : 1048576 < total + (chk o.f2).1
           · rw [if_pos (by omega), if_pos c6]
           · rw [if_neg (by omega), if_neg c6]
 · rw [if_neg c1, if_neg c1]
theorem rins_is (o : S41) (total : Int) (ht : 0 ≤ total ∧ total ≤ 1048576) (hs : o.f2.size ≤ 1048576) : Ev (fun k => redraftref04_insert.f k o.f0.f0.f0 o.f0.f0.f1 o.f0.f1 o.f1 o.f2 o.f3 o.f4.f0 o.f4.f1 o.f5 total) (insE o total) := by
 obtain ⟨K, hK⟩ := ref_chk o.f2 hs
 dsimp only at hK
 have hb := chk_bound o.f2 hs
 refine ⟨K + 1, fun k hk => ?_⟩
 obtain ⟨k, rfl⟩ : ∃ m, k = m + 1 := ⟨k - 1, by omega⟩
 simp only [redraftref04_insert.f, insE]
 rw [hK (k + 1) (by omega)]
 simp only [Option.bind_some]
 by_cases c1 : (chk o.f2).2.2 = 0
 · rw [if_pos c1, if_pos c1]
   by_cases c2 : (chk o.f2).1 = 0
   · rw [if_pos c2, if_pos c2]
   · rw [if_neg c2, if_neg c2]
     by_cases c3 : 256 < (chk o.f2).1
     · rw [if_pos (by omega), if_pos c3]
     · rw [if_neg (by omega), if_neg c3]
       have w : wrap64 (total + (chk o.f2).1) = total + (chk o.f2).1 := wrap_id (by omega) (by omega)
       by_cases c4 : o.f1 < 0
       · rw [if_pos c4, if_pos (Or.inl c4), redraftref04_insert.j0, if_pos rfl]
       · rw [if_neg c4, redraftref04_insert.j0]
         by_cases c5 : total < o.f1
         · rw [if_pos (decide_eq_true c5), if_pos (Or.inr c5)]
         · rw [if_neg (by rw [decide_eq_false (by omega)]; simp), if_neg (show ¬ (o.f1 < 0 ∨ total < o.f1) by omega), w]
           by_cases c6 : 1048576 < total + (chk o.f2).1
           · rw [if_pos (by omega), if_pos c6]
           · rw [if_neg (by omega), if_neg c6]
 · rw [if_neg c1, if_neg c1]
theorem rgs_is (l : List S94) (total : Int) (hl : l.length ≤ 4611686018427387904) : Ev (fun k => op_checkRanges.f k l total) (rgsE l total) := by
 obtain ⟨K, hK⟩ := span_chk l
 dsimp only at hK
 refine ⟨K, fun k hk => ?_⟩
 simp only [op_checkRanges.f, rgsE]
 by_cases c0 : l.length = 0
 · rw [if_pos (by omega), if_pos c0]
 · rw [if_neg (by omega), if_neg c0, hK k hk]
   simp only [Option.bind_some]
   by_cases c1 : (rngE l).2 = 0
   · have w : wrap64 ((l.length : Int) - 1) = ((l.length - 1 : Nat) : Int) := by rw [wrap_id (by omega) (by omega)]; omega
     have e : rd_T94 l ((l.length - 1 : Nat) : Int) = l.getD (l.length - 1) z94 := by unfold rd_T94; rw [Int.toNat_natCast]
     rw [if_pos c1, if_pos c1, w, if_pos (by omega), if_pos (by omega), e]
     unfold lastHi
     by_cases c2 : total < (l.getD (l.length - 1) z94).f1
     · rw [if_pos (by omega), if_pos c2]
     · rw [if_neg (by omega), if_neg c2]
   · rw [if_neg c1, if_neg c1]

theorem check_is (o : S41) (total : Int) (hs : o.f2.size ≤ 1048576) (hl : o.f3.length ≤ 4611686018427387904) : Ev (fun k => op_Check.f k o.f0.f0.f0 o.f0.f0.f1 o.f0.f1 o.f1 o.f2 o.f3 o.f4.f0 o.f4.f1 o.f5 total) (checkE o total) := by
 obtain ⟨K, hK⟩ := rgs_is o.f3 total hl
 dsimp only at hK
 refine ⟨K + 4, fun k hk => ?_⟩
 obtain ⟨k, rfl⟩ : ∃ m, k = m + 4 := ⟨k - 4, by omega⟩
 simp only [op_Check.f, checkE]
 by_cases c0 : total < 0
 · rw [if_pos c0, if_pos (Or.inl c0), op_Check.j0, if_pos rfl]
 · rw [if_neg c0, op_Check.j0]
   by_cases c1 : 1048576 < total
   · rw [if_pos (decide_eq_true c1), if_pos (Or.inr c1)]
   · rw [if_neg (by rw [decide_eq_false (by omega)]; simp), if_neg (show ¬ (total < 0 ∨ 1048576 < total) by omega)]
     by_cases c2 : o.f0.f1 < 1
     · rw [if_pos c2, if_pos (Or.inl c2), op_Check.j1, if_pos rfl]
     · rw [if_neg c2, op_Check.j1]
       by_cases c3 : 4 < o.f0.f1
       · rw [if_pos (decide_eq_true c3), if_pos (Or.inr c3)]
       · rw [if_neg (by rw [decide_eq_false (by omega)]; simp), if_neg (show ¬ (o.f0.f1 < 1 ∨ 4 < o.f0.f1) by omega)]
         have hj : ∀ b : Bool, (b = true ↔ badID o) → op_Check.j2 (k + 2) total b o.f0.f0.f0 o.f0.f0.f1 o.f0.f1 o.f1 o.f2 o.f3 o.f4.f0 o.f4.f1 o.f5 = some (if badID o then 41 else if extraB o = true then 42 else if o.f0.f1 = 1 then insE o total else if o.f0.f1 = 4 then staE o else rgsE o.f3 total) := by
          intro b hb
          rw [op_Check.j2]
          by_cases c4 : badID o
          · rw [if_pos (hb.2 c4), if_pos c4]
          · rw [if_neg (fun h => c4 (hb.1 h)), if_neg c4, extra_is]
            simp only [Option.bind_some]
            by_cases c5 : extraB o = true
            · rw [if_pos c5, if_pos c5]
            · rw [if_neg c5, if_neg c5]
              by_cases c6 : o.f0.f1 = 1
              · rw [if_pos c6, if_pos c6, ins_is k o total ⟨by omega, by omega⟩ hs]
                rfl
              · rw [if_neg c6, if_neg c6]
                by_cases c7 : o.f0.f1 = 4
                · rw [if_pos c7, if_pos c7, right_is]
                  simp only [Option.bind_some]
                  unfold staE
                  by_cases c8 : isID o.f4.f0 o.f4.f1 = true
                  · rw [if_pos c8]
                    by_cases c9 : o.f4.f0 = o.f0.f0.f0 ∧ o.f4.f1 = o.f0.f0.f1
                    · rw [if_pos (by simp [c9.1, c9.2]), if_neg (fun h => h.2 c9)]
                    · rw [if_neg (by simpa using c9), if_pos ⟨c8, c9⟩]
                  · rw [if_neg c8, if_neg (fun h => c8 h.1)]
                · rw [if_neg c7, if_neg c7, hK (k + 1) (by omega)]
                  rfl
         by_cases c4 : (!(o.f0.f0.f0 == 0) || (!(o.f0.f0.f1 == 0))) = true
         · rw [if_pos c4, right_is]
           simp only [Option.bind_some]
           refine hj _ ?_
           have : ¬ (o.f0.f0.f0 = 0 ∧ o.f0.f0.f1 = 0) := by simpa [Classical.or_iff_not_imp_left] using c4
           unfold badID
           simp [this]
         · rw [if_neg c4]
           refine hj _ ?_
           have : o.f0.f0.f0 = 0 ∧ o.f0.f0.f1 = 0 := by simpa using c4
           unfold badID
           simp [this]

theorem rcheck_is (o : S41) (total : Int) (hs : o.f2.size ≤ 1048576) (hl : o.f3.length ≤ 4611686018427387904) : Ev (fun k => redraftref04_Check.f k o.f0.f0.f0 o.f0.f0.f1 o.f0.f1 o.f1 o.f2 o.f3 o.f4.f0 o.f4.f1 o.f5 total) (checkE o total) := by
 obtain ⟨K, hK⟩ := ref_rng o.f3
 obtain ⟨K2, hK2⟩ : ∃ K2, ∀ k, K2 ≤ k → 0 ≤ total ∧ total ≤ 1048576 → redraftref04_insert.f k o.f0.f0.f0 o.f0.f0.f1 o.f0.f1 o.f1 o.f2 o.f3 o.f4.f0 o.f4.f1 o.f5 total = some (insE o total) := by
  by_cases ht : 0 ≤ total ∧ total ≤ 1048576
  · obtain ⟨K2, h⟩ := rins_is o total ht hs
    exact ⟨K2, fun k hk _ => h k hk⟩
  · exact ⟨0, fun k hk h => absurd h ht⟩
 dsimp only at hK
 refine ⟨K + K2 + 4, fun k hk => ?_⟩
 obtain ⟨k, rfl⟩ : ∃ m, k = m + 4 := ⟨k - 4, by omega⟩
 simp only [redraftref04_Check.f, checkE]
 by_cases c0 : total < 0
 · rw [if_pos c0, if_pos (Or.inl c0), redraftref04_Check.j0, if_pos rfl]
 · rw [if_neg c0, redraftref04_Check.j0]
   by_cases c1 : 1048576 < total
   · rw [if_pos (decide_eq_true c1), if_pos (Or.inr c1)]
   · rw [if_neg (by rw [decide_eq_false (by omega)]; simp), if_neg (show ¬ (total < 0 ∨ 1048576 < total) by omega)]
     by_cases c2 : o.f0.f1 < 1
     · rw [if_pos c2, if_pos (Or.inl c2), redraftref04_Check.j1, if_pos rfl]
     · rw [if_neg c2, redraftref04_Check.j1]
       by_cases c3 : 4 < o.f0.f1
       · rw [if_pos (decide_eq_true c3), if_pos (Or.inr c3)]
       · rw [if_neg (by rw [decide_eq_false (by omega)]; simp), if_neg (show ¬ (o.f0.f1 < 1 ∨ 4 < o.f0.f1) by omega), isID_is, none_is]
         simp only [Option.bind_some]
         have hj : ∀ b : Bool, (b = true ↔ badID o) → redraftref04_Check.j2 (k + 2) total o.f0.f1 b o.f0.f0.f0 o.f0.f0.f1 o.f0.f1 o.f1 o.f2 o.f3 o.f4.f0 o.f4.f1 o.f5 = some (if badID o then 41 else if extraB o = true then 42 else if o.f0.f1 = 1 then insE o total else if o.f0.f1 = 4 then staE o else rgsE o.f3 total) := by
          intro b hb
          rw [redraftref04_Check.j2]
          by_cases c4 : badID o
          · rw [if_pos (hb.2 c4), if_pos c4]
          · rw [if_neg (fun h => c4 (hb.1 h)), if_neg c4, rextra_is o (by omega)]
            simp only [Option.bind_some]
            by_cases c5 : extraB o = true
            · rw [if_pos c5, if_pos c5]
            · rw [if_neg c5, if_neg c5]
              by_cases c6 : o.f0.f1 = 1
              · rw [if_pos c6, if_pos c6]
                rw [hK2 (k + 1) (by omega) ⟨by omega, by omega⟩]
                rfl
              · rw [if_neg c6, if_neg c6]
                by_cases c7 : o.f0.f1 = 4
                · rw [if_pos c7, if_pos c7, isID_is]
                  simp only [Option.bind_some]
                  unfold staE
                  by_cases c8 : isID o.f4.f0 o.f4.f1 = true
                  · rw [if_pos c8]
                    by_cases c9 : o.f4.f0 = o.f0.f0.f0
                    · rw [if_pos c9]
                      by_cases c10 : o.f4.f1 = o.f0.f0.f1
                      · rw [if_pos c10, if_neg (fun h => h.2 ⟨c9, c10⟩)]
                      · rw [if_neg c10, if_pos ⟨c8, fun h => c10 h.2⟩]
                    · rw [if_neg c9, if_pos ⟨c8, fun h => c9 h.1⟩]
                  · rw [if_neg c8, if_neg (fun h => c8 h.1)]
                · rw [if_neg c7, if_neg c7]
                  unfold rgsE
                  by_cases c8 : o.f3.length = 0
                  · rw [if_pos (by omega), if_pos c8]
                  · rw [if_neg (by omega), if_neg c8, hK (k + 1) (by omega)]
                    simp only [Option.bind_some]
                    by_cases c9 : (rngE o.f3).2 = 0
                    · have w : wrap64 ((o.f3.length : Int) - 1) = ((o.f3.length - 1 : Nat) : Int) := by rw [wrap_id (by omega) (by omega)]; omega
                      have e : rd_T94 o.f3 ((o.f3.length - 1 : Nat) : Int) = o.f3.getD (o.f3.length - 1) z94 := by unfold rd_T94; rw [Int.toNat_natCast]
                      rw [if_pos c9, if_pos c9, w, if_pos (by omega), if_pos (by omega), e]
                      unfold lastHi
                      by_cases c10 : total < (o.f3.getD (o.f3.length - 1) z94).f1
                      · rw [if_pos (by omega), if_pos c10]
                      · rw [if_neg (by omega), if_neg c10, c9]
                    · rw [if_neg c9, if_neg c9]
         by_cases c4 : isID o.f0.f0.f0 o.f0.f0.f1 = true
         · rw [if_pos c4]
           exact hj _ (by unfold badID; simp [c4])
         · rw [if_neg c4]
           refine hj _ ⟨fun h => ⟨fun hx => ?_, Bool.eq_false_iff.2 c4⟩, fun h => ?_⟩
           · rw [decide_eq_true hx] at h; cases h
           · rw [decide_eq_false h.1]; rfl

theorem own_is (o : S41) (hs : o.f2.size ≤ 1048576) (hl : o.f3.length ≤ 4611686018427387904) : Ev (fun k => xform_own.f k o.f0.f0.f0 o.f0.f0.f1 o.f0.f1 o.f1 o.f2 o.f3 o.f4.f0 o.f4.f1 o.f5) (ownE o) := by
 obtain ⟨K, hK⟩ := check_is o (totOf o) hs hl
 dsimp only at hK
 refine ⟨K + 1, fun k hk => ?_⟩
 obtain ⟨k, rfl⟩ : ∃ m, k = m + 1 := ⟨k - 1, by omega⟩
 have hK' := hK k (by omega)
 simp only [xform_own.f, ownE]
 by_cases c1 : o.f0.f1 = 1
 · by_cases c2 : 0 ≤ o.f1
   · by_cases c3 : o.f1 ≤ 1048576
     · have e : totOf o = o.f1 := by unfold totOf; rw [if_pos ⟨c1, c2, c3⟩]
       rw [e] at hK' ⊢
       rw [if_pos c1, if_pos c2, xform_own.j0, if_pos (decide_eq_true c3), hK']
       rfl
     · have e : totOf o = 1048576 := by unfold totOf; rw [if_neg (fun h => c3 h.2.2)]
       rw [e] at hK' ⊢
       rw [if_pos c1, if_pos c2, xform_own.j0, if_neg (by rw [decide_eq_false c3]; simp), hK']
       rfl
   · have e : totOf o = 1048576 := by unfold totOf; rw [if_neg (fun h => c2 h.2.1)]
     rw [e] at hK' ⊢
     rw [if_pos c1, if_neg c2, xform_own.j0, if_neg (by simp), hK']
     rfl
 · have e : totOf o = 1048576 := by unfold totOf; rw [if_neg (fun h => c1 h.1)]
   rw [e] at hK' ⊢
   rw [if_neg c1, xform_own.j0, if_neg (by simp), hK']
   rfl
theorem rown_is (o : S41) (hs : o.f2.size ≤ 1048576) (hl : o.f3.length ≤ 4611686018427387904) : Ev (fun k => redraftref04_Own.f k o.f0.f0.f0 o.f0.f0.f1 o.f0.f1 o.f1 o.f2 o.f3 o.f4.f0 o.f4.f1 o.f5) (ownE o) := by
 obtain ⟨K, hK⟩ := rcheck_is o (totOf o) hs hl
 dsimp only at hK
 refine ⟨K + 1, fun k hk => ?_⟩
 obtain ⟨k, rfl⟩ : ∃ m, k = m + 1 := ⟨k - 1, by omega⟩
 have hK' := hK k (by omega)
 simp only [redraftref04_Own.f, ownE]
 by_cases c1 : o.f0.f1 = 1
 · by_cases c2 : 0 ≤ o.f1
   · by_cases c3 : o.f1 ≤ 1048576
     · have e : totOf o = o.f1 := by unfold totOf; rw [if_pos ⟨c1, c2, c3⟩]
       rw [e] at hK' ⊢
       rw [if_pos c1, if_pos c2, redraftref04_Own.j0, if_pos (decide_eq_true c3), hK']
       rfl
     · have e : totOf o = 1048576 := by unfold totOf; rw [if_neg (fun h => c3 h.2.2)]
       rw [e] at hK' ⊢
       rw [if_pos c1, if_pos c2, redraftref04_Own.j0, if_neg (by rw [decide_eq_false c3]; simp), hK']
       rfl
   · have e : totOf o = 1048576 := by unfold totOf; rw [if_neg (fun h => c2 h.2.1)]
     rw [e] at hK' ⊢
     rw [if_pos c1, if_neg c2, redraftref04_Own.j0, if_neg (by simp), hK']
     rfl
 · have e : totOf o = 1048576 := by unfold totOf; rw [if_neg (fun h => c1 h.1)]
   rw [e] at hK' ⊢
   rw [if_neg c1, redraftref04_Own.j0, if_neg (by simp), hK']
   rfl
end Go.Proofs.YtloccjkcmlkifaaDoor
end

section
/- What comes in is of a size that a machine may hold; a copy is what was copied. -/
namespace Go.Proofs.YtloccjkcmlkifaaDoor
open Go.RowKit Go.Proofs.YtloccjkcmlkifaaDoor.PAll Go.Proofs.YtloccjkcmlkifaaDoorW.PrintWords

def fineOp (o : S41) : Prop := o.f2.size ≤ 1048576 ∧ o.f3.length ≤ 1048576
def fineStep (s : S100) : Prop := fineOp s.f1 ∧ fineOp s.f2 ∧ (s.f3.length ≤ 1048576 ∧ ∀ o ∈ s.f3, fineOp o) ∧ (s.f4.length ≤ 1048576 ∧ ∀ o ∈ s.f4, fineOp o)
theorem copy_is (o : S41) (h : fineOp o) : redraftref05_Copy.f o.f0.f0.f0 o.f0.f0.f1 o.f0.f1 o.f1 o.f2 o.f3 o.f4.f0 o.f4.f1 o.f5 = some (o.f0.f0.f0, o.f0.f0.f1, o.f0.f1, o.f1, o.f2, o.f3, o.f4.f0, o.f4.f1, o.f5) := by
 unfold redraftref05_Copy.f
 rw [if_pos (by have := h.2; simp; omega)]
 rfl
end Go.Proofs.YtloccjkcmlkifaaDoor
end

section
/- Operations, and a script of calls, as they came in. -/
namespace Go.Proofs.YtloccjkcmlkifaaDoor
open Go.ChangeShapes Go.WideShapes Go.ChangeAt Go.RowKit Go.Proofs.YtloccjkcmlkifaaDoorW.PrintWords Go.Proofs.YtloccjkcmlkifaaDoor.PAll

section
variable {H : Type} {enc : TypeId × Value → H} {w : World} {cs : List Value}
theorem c3 : Tryd.prog.cellsOf 3 = 1 := by kernel_rfl
theorem c4 : Tryd.prog.cellsOf 4 = 1 := by kernel_rfl
theorem c9 : Tryd.prog.cellsOf 9 = 1 := by kernel_rfl
theorem c29 : Tryd.prog.cellsOf 29 = 1 := by kernel_rfl
theorem c35 : Tryd.prog.cellsOf 35 = 2 := by kernel_rfl
theorem c36 : Tryd.prog.cellsOf 36 = 1 := by kernel_rfl
theorem c38 : Tryd.prog.cellsOf 38 = 3 := by kernel_rfl
theorem c39 : Tryd.prog.cellsOf 39 = 1 := by kernel_rfl
theorem c41 : Tryd.prog.cellsOf 41 = 9 := by kernel_rfl
theorem c94 : Tryd.prog.cellsOf 94 = 2 := by kernel_rfl
theorem c100 : Tryd.prog.cellsOf 100 = 24 := by kernel_rfl

set_option maxRecDepth 100000 in
theorem redU_range (h : RedU enc Tryd.prog w 94 cs) : ∃ x : S94, k94.K w x cs ∧ True := by
 obtain ⟨hl, hr⟩ := redU_struct Tryd.underlying94 h
 rw [c94] at hl
 match cs, hl with
 | [x, y], _ =>
  obtain ⟨n0, e0, _⟩ := redU_int Tryd.underlying3 (hr 0 _ rfl)
  obtain ⟨n1, e1, _⟩ := redU_int Tryd.underlying3 (hr 1 _ rfl)
  simp [c3] at e0 e1
  subst e0 e1
  exact ⟨⟨n0, n1⟩, k94_mk w ⟨n0, n1⟩, trivial⟩
set_option maxRecDepth 100000 in
theorem redU_id (h : RedU enc Tryd.prog w 35 cs) : ∃ a b : Int, cs = [.int .i64 a, .int .i64 b] := by
 obtain ⟨hl, hr⟩ := redU_array Tryd.underlying35 h
 rw [c35] at hl
 match cs, hl with
 | [x, y], _ =>
  obtain ⟨n0, e0, _⟩ := redU_int Tryd.underlying3 (hr 0 (by decide))
  obtain ⟨n1, e1, _⟩ := redU_int Tryd.underlying3 (hr 1 (by decide))
  simp [c3] at e0 e1
  subst e0 e1
  exact ⟨n0, n1, rfl⟩
set_option maxRecDepth 100000 in
theorem redU_op (h : RedU enc Tryd.prog w 41 cs) : ∃ (o : S41) (A : Option Addr) (c : Nat), cs = [.int .i64 o.f0.f0.f0, .int .i64 o.f0.f0.f1, .int .i64 o.f0.f1, .int .i64 o.f1, .string o.f2, .slice A o.f3.length c, .int .i64 o.f4.f0, .int .i64 o.f4.f1, .bool o.f5] ∧ o.f3.length ≤ c ∧ k94.C w A o.f3.length o.f3 ∧ fineOp o := by
 obtain ⟨hl, hr⟩ := redU_struct Tryd.underlying41 h
 rw [c41] at hl
 match cs, hl with
 | [x0, x1, x2, x3, x4, x5, x6, x7, x8], _ =>
  obtain ⟨_, hh⟩ := redU_struct Tryd.underlying38 (hr 0 _ rfl)
  obtain ⟨i0, i1, e0⟩ := redU_id (hh 0 _ rfl)
  obtain ⟨n2, e2, _⟩ := redU_int Tryd.underlying36 (hh 1 _ rfl)
  obtain ⟨n3, e3, _⟩ := redU_int Tryd.underlying3 (hr 1 _ rfl)
  obtain ⟨s, e4, hs⟩ := redU_string Tryd.underlying9 (hr 2 _ rfl)
  obtain ⟨A, c, l, e5, hlc, hc, hC, _⟩ := redU_row k94 z94 (fun _ => True) Tryd.underlying39 c94 (by decide) (fun _ h => redU_range h) (hr 3 _ rfl)
  obtain ⟨t0, t1, e6⟩ := redU_id (hr 4 _ rfl)
  obtain ⟨b, e8⟩ := redU_bool Tryd.underlying4 (hr 5 _ rfl)
  simp [c38, c35, c36, c3, c9, c39, c4] at e0 e2 e3 e4 e5 e6 e8
  obtain ⟨rfl, rfl⟩ := e0
  obtain ⟨rfl, rfl⟩ := e6
  subst e2 e3 e4 e5 e8
  exact ⟨⟨⟨⟨i0, i1⟩, n2⟩, n3, s, l, ⟨t0, t1⟩, b⟩, A, c, rfl, hlc, hC, hs, by show l.length ≤ _; omega⟩
theorem redU_opK (h : RedU enc Tryd.prog w 41 cs) : ∃ o : S41, k41.K w o cs ∧ fineOp o := by
 obtain ⟨o, A, c, rfl, h1, h2, h3⟩ := redU_op h
 exact ⟨o, k41_mk w o h1 h2, h3⟩
set_option maxRecDepth 100000 in
theorem redU_step (h : RedU enc Tryd.prog w 100 cs) : ∃ s : S100, k100.K w s cs ∧ fineStep s := by
 obtain ⟨hl, hr⟩ := redU_struct Tryd.underlying100 h
 rw [c100] at hl
 match cs, hl with
 | [x0, x1, x2, x3, x4, x5, x6, x7, x8, x9, x10, x11, x12, x13, x14, x15, x16, x17, x18, x19, x20, x21, x22, x23], _ =>
  obtain ⟨n0, e0, _⟩ := redU_int Tryd.underlying3 (hr 0 _ rfl)
  obtain ⟨oa, A1, k1, e1, a1, b1, f1⟩ := redU_op (hr 1 _ rfl)
  obtain ⟨ob, A2, k2, e2, a2, b2, f2⟩ := redU_op (hr 2 _ rfl)
  obtain ⟨A3, k3, l3, e3, a3, q3, b3, f3⟩ := redU_row k41 z41 fineOp Tryd.underlying29 c41 (by decide) (fun _ h => redU_opK h) (hr 3 _ rfl)
  obtain ⟨A4, k4, l4, e4, a4, q4, b4, f4⟩ := redU_row k41 z41 fineOp Tryd.underlying29 c41 (by decide) (fun _ h => redU_opK h) (hr 4 _ rfl)
  obtain ⟨b, e5⟩ := redU_bool Tryd.underlying4 (hr 5 _ rfl)
  obtain ⟨n6, e6, _⟩ := redU_int Tryd.underlying3 (hr 6 _ rfl)
  obtain ⟨n7, e7, _⟩ := redU_int Tryd.underlying3 (hr 7 _ rfl)
  simp [c41, c29, c3, c4] at e0 e1 e2 e3 e4 e5 e6 e7
  obtain ⟨rfl, rfl, rfl, rfl, rfl, rfl, rfl, rfl, rfl⟩ := e1
  obtain ⟨rfl, rfl, rfl, rfl, rfl, rfl, rfl, rfl, rfl⟩ := e2
  subst e0 e3 e4 e5 e6 e7
  exact ⟨⟨n0, oa, ob, l3, l4, b, n6, n7⟩, k100_mk w ⟨n0, oa, ob, l3, l4, b, n6, n7⟩ a1 b1 a2 b2 a3 b3 a4 b4, f1, f2, ⟨by show l3.length ≤ _; omega, f3⟩, ⟨by show l4.length ≤ _; omega, f4⟩⟩
theorem redU_script (h : RedU enc Tryd.prog w 81 cs) : ∃ (A : Option Addr) (c : Nat) (l : List S100), cs = [.slice A l.length c] ∧ l.length ≤ c ∧ l.length ≤ 1048576 ∧ k100.C w A l.length l ∧ ∀ s ∈ l, fineStep s := by
 obtain ⟨A, c, l, e, h1, h2, h3, h4⟩ := redU_row k100 z100 fineStep Tryd.underlying81 c100 (by decide) (fun _ h => redU_step h) h
 exact ⟨A, c, l, e, h1, by omega, h3, h4⟩
end
end Go.Proofs.YtloccjkcmlkifaaDoor
end

section
/- The document's way of sorting numbers and of counting them. -/
namespace Go.Proofs.YtloccjkcmlkifaaDoor
open Go.RowKit Go.Proofs.YtloccjkcmlkifaaDoor.PAll Go.Proofs.YtloccjkcmlkifaaDoorW.PrintWords

abbrev leB (x y : Int) : Bool := decide (x ≤ y)
theorem rd_get {l : List Int} {i : Nat} (h : i < l.length) : rd l (i : Int) = l[i] := by
 unfold rd; rw [Int.toNat_natCast, List.getD_eq_getElem?_getD, List.getElem?_eq_getElem h]; rfl
theorem merge_loop (a b : List Int) (ha : a.length ≤ 4611686018427387904) (hb : b.length ≤ 4611686018427387904) : ∀ (d k i j : Nat) (out : List Int), a.length + b.length ≤ d + (i + j) → i ≤ a.length → j ≤ b.length → out.length + d ≤ 8796093022208 → 2 * d + 2 ≤ k →
 redraftref02_Sorted.l0 k a b out (i : Int) (j : Int) = some (out ++ List.merge (a.drop i) (b.drop j) leB) := by
 intro d
 induction d with
 | zero =>
  intro k i j out h1 h2 h3 h4 hk
  obtain ⟨k, rfl⟩ : ∃ m, k = m + 2 := ⟨k - 2, by omega⟩
  rw [show k + 2 = (k + 1) + 1 from rfl, redraftref02_Sorted.l0, if_neg (by omega), redraftref02_Sorted.j1, if_neg (by simp; omega)]
  rw [List.drop_eq_nil_of_le (show a.length ≤ i by omega), List.drop_eq_nil_of_le (show b.length ≤ j by omega), List.merge_right, List.append_nil]
 | succ d ih =>
  intro k i j out h1 h2 h3 h4 hk
  obtain ⟨k, rfl⟩ : ∃ m, k = m + 2 := ⟨k - 2, by omega⟩
  by_cases hi : i < a.length
  · have wi : wrap64 ((i : Int) + 1) = ((i + 1 : Nat) : Int) := by clear ih h1 h4 hk; rw [wrap_id (by omega) (by omega)]; omega
    rw [show k + 2 = (k + 1) + 1 from rfl, redraftref02_Sorted.l0, if_pos (show (i : Int) < (a.length : Int) by omega), redraftref02_Sorted.j1, if_pos rfl]
    by_cases hj : j < b.length
    · have wj : wrap64 ((j : Int) + 1) = ((j + 1 : Nat) : Int) := by clear ih h1 h4 hk; rw [wrap_id (by omega) (by omega)]; omega
      rw [if_neg (show ¬ ((j : Int) ≥ (b.length : Int)) by omega), if_pos (show (i : Int) < (a.length : Int) by omega), if_pos (by omega), if_pos (by omega), if_pos (show (j : Int) < (b.length : Int) by omega), rd_get hi, rd_get hj]
      rw [List.drop_eq_getElem_cons hi, List.drop_eq_getElem_cons hj, List.cons_merge_cons]
      by_cases hle : a[i] ≤ b[j]
      · rw [if_pos hle, if_pos (by omega), wi, ih k (i + 1) j (out ++ [a[i]]) (by omega) (by omega) (by omega) (by simp; omega) (by omega), if_pos (decide_eq_true hle), ← List.drop_eq_getElem_cons hj, List.append_assoc]
        rfl
      · rw [if_neg hle, if_pos (by omega), wj, ih k i (j + 1) (out ++ [b[j]]) (by omega) (by omega) (by omega) (by simp; omega) (by omega), if_neg (fun h => hle (of_decide_eq_true h)), ← List.drop_eq_getElem_cons hi, List.append_assoc]
        rfl
    · rw [if_pos (show (j : Int) ≥ (b.length : Int) by omega), if_pos (by omega), if_pos (show (i : Int) < (a.length : Int) by omega), if_pos (by omega), rd_get hi, wi, ih k (i + 1) j (out ++ [a[i]]) (by omega) (by omega) (by omega) (by simp; omega) (by omega)]
      rw [List.drop_eq_getElem_cons hi, List.drop_eq_nil_of_le (show b.length ≤ j by omega), List.merge_right, List.merge_right, List.append_assoc]
      rfl
  · rw [show k + 2 = (k + 1) + 1 from rfl, redraftref02_Sorted.l0, if_neg (show ¬ (i : Int) < (a.length : Int) by omega), redraftref02_Sorted.j1]
    by_cases hj : j < b.length
    · have wj : wrap64 ((j : Int) + 1) = ((j + 1 : Nat) : Int) := by clear ih h1 h4 hk; rw [wrap_id (by omega) (by omega)]; omega
      rw [if_pos (decide_eq_true (show (j : Int) < (b.length : Int) by omega)), if_neg (show ¬ ((j : Int) ≥ (b.length : Int)) by omega), if_neg (show ¬ (i : Int) < (a.length : Int) by omega), if_pos (by omega), if_pos (show (j : Int) < (b.length : Int) by omega), if_pos (by omega), rd_get hj, wj, ih k i (j + 1) (out ++ [b[j]]) (by omega) (by omega) (by omega) (by simp; omega) (by omega)]
      rw [List.drop_eq_getElem_cons hj, List.drop_eq_nil_of_le (show a.length ≤ i by omega), List.nil_merge, List.nil_merge, List.append_assoc]
      rfl
    · rw [if_neg (by simp; omega), List.drop_eq_nil_of_le (show a.length ≤ i by omega), List.drop_eq_nil_of_le (show b.length ≤ j by omega), List.merge_right, List.append_nil]
theorem leB_trans (a b c : Int) : leB a b = true → leB b c = true → leB a c = true := by simp only [leB, decide_eq_true_eq]; omega
theorem leB_total (a b : Int) : (leB a b || leB b a) = true := by simp only [leB, Bool.or_eq_true, decide_eq_true_eq]; omega
theorem sorted_ex : ∀ (n : Nat) (l : List Int), l.length ≤ n → n ≤ 4398046511104 → ∃ s : List Int, s.Pairwise (fun x y => leB x y = true) ∧ s.Perm l ∧ Ev (fun k => redraftref02_Sorted.f k l) s := by
 intro n
 induction n using Nat.strongRecOn with
 | _ n ih =>
  intro l hl hn
  by_cases h2 : l.length < 2
  · refine ⟨l, ?_, List.Perm.refl _, 1, fun k hk => ?_⟩
    · match l, h2 with
      | [], _ => exact List.Pairwise.nil
      | [x], _ => exact List.pairwise_singleton _ _
    · obtain ⟨k, rfl⟩ : ∃ m, k = m + 1 := ⟨k - 1, by omega⟩
      simp only [redraftref02_Sorted.f]
      rw [if_pos (by omega), if_pos (by simp; omega)]
      rfl
  · have w : wrap64 ((l.length : Int) / 2) = ((l.length / 2 : Nat) : Int) := by rw [wrap_id (by omega) (by omega)]; omega
    obtain ⟨s1, p1, q1, K1, e1⟩ := ih (l.length / 2) (by omega) (l.take (l.length / 2)) (by simp; omega) (by omega)
    obtain ⟨s2, p2, q2, K2, e2⟩ := ih (l.length - l.length / 2) (by omega) (l.drop (l.length / 2)) (by simp) (by omega)
    dsimp only at e1 e2
    have hl1 : s1.length = l.length / 2 := by rw [q1.length_eq]; simp; omega
    have hl2 : s2.length = l.length - l.length / 2 := by rw [q2.length_eq]; simp
    refine ⟨List.merge s1 s2 leB, List.pairwise_merge (le := leB) leB_trans leB_total _ _ p1 p2, ?_, K1 + K2 + 2 * l.length + 5, fun k hk => ?_⟩
    · refine (List.merge_perm_append leB).trans ?_
      have := q1.append q2
      rwa [List.take_append_drop] at this
    · obtain ⟨k, rfl⟩ : ∃ m, k = m + 1 := ⟨k - 1, by omega⟩
      simp only [redraftref02_Sorted.f]
      rw [if_neg (by omega), w, if_pos (by omega), if_pos (by omega), Int.toNat_natCast, e1 k (by omega)]
      simp only [Option.bind_some]
      rw [e2 k (by omega)]
      simp only [Option.bind_some]
      rw [if_pos (by omega)]
      have := merge_loop s1 s2 (by omega) (by omega) l.length k 0 0 [] (by omega) (by omega) (by omega) (by simp; omega) (by omega)
      simpa using this
theorem sorted_is (l s : List Int) (hl : l.length ≤ 4398046511104) (hs : s.Pairwise (fun x y => leB x y = true)) (hp : s.Perm l) : Ev (fun k => redraftref02_Sorted.f k l) s := by
 obtain ⟨s', p, q, e⟩ := sorted_ex _ l (Nat.le_refl _) hl
 have : s' = s := List.Perm.eq_of_pairwise (le := fun x y => leB x y = true) (fun x y _ _ h1 h2 => by simp only [leB, decide_eq_true_eq] at h1 h2; omega) p hs (q.trans hp.symm)
 rw [← this]; exact e
def cnt (l : List Int) (x : Int) : Nat := (l.filter fun y => decide (y ≤ x)).length
theorem upTo_loop (l : List Int) (x : Int) (hl : l.length ≤ 4398046511104) (hs : l.Pairwise (· ≤ ·)) : ∀ (d k lo hi : Nat), hi ≤ lo + d → lo ≤ hi → hi ≤ l.length → (∀ i (h : i < l.length), i < lo → l[i] ≤ x) → (∀ i (h : i < l.length), hi ≤ i → x < l[i]) → d + 1 ≤ k →
 ∃ r : Nat, redraftref02_upTo.l0 k l x (lo : Int) (hi : Int) = some (r : Int) ∧ r ≤ l.length ∧ (∀ i (h : i < l.length), i < r → l[i] ≤ x) ∧ (∀ i (h : i < l.length), r ≤ i → x < l[i]) := by
 intro d
 induction d with
 | zero =>
  intro k lo hi h1 h2 h3 hA hB hk
  obtain ⟨k, rfl⟩ : ∃ m, k = m + 1 := ⟨k - 1, by omega⟩
  rw [redraftref02_upTo.l0, if_neg (by omega)]
  exact ⟨lo, rfl, by omega, hA, fun i h hi' => hB i h (by omega)⟩
 | succ d ih =>
  intro k lo hi h1 h2 h3 hA hB hk
  obtain ⟨k, rfl⟩ : ∃ m, k = m + 1 := ⟨k - 1, by omega⟩
  by_cases hlt : lo < hi
  · obtain ⟨m, hm⟩ : ∃ m, m = lo + (hi - lo) / 2 := ⟨_, rfl⟩
    have m1 : lo ≤ m := by omega
    have m2 : m < hi := by omega
    have w3 : wrap64 ((lo : Int) + wrap64 (Int.tdiv (wrap64 ((hi : Int) - (lo : Int))) 2)) = (m : Int) := by
     clear ih hA hB hk h1
     have w1 : wrap64 ((hi : Int) - (lo : Int)) = ((hi - lo : Nat) : Int) := by rw [wrap_id (by omega) (by omega)]; omega
     have w2 : wrap64 (Int.tdiv ((hi - lo : Nat) : Int) 2) = (((hi - lo) / 2 : Nat) : Int) := by
      rw [Int.tdiv_eq_ediv_of_nonneg (by omega), wrap_id (by omega) (by omega)]; omega
     rw [w1, w2, wrap_id (by omega) (by omega)]; omega
    have w4 : wrap64 ((m : Int) + 1) = ((m + 1 : Nat) : Int) := by
     clear ih hA hB hk h1
     rw [wrap_id (by omega) (by omega)]; omega
    have hml : m < l.length := by omega
    have hmono : ∀ i j (hi : i < l.length) (hj : j < l.length), i ≤ j → l[i] ≤ l[j] := fun i j hi hj hij => by
     rcases Nat.lt_or_eq_of_le hij with h | h
     · exact List.pairwise_iff_getElem.1 hs i j hi hj h
     · subst h; exact Int.le_refl _
    have q1 : (lo : Int) < (hi : Int) := by omega
    have q2 : (m : Int) < (l.length : Int) := by omega
    have q3 : (0 : Int) ≤ (m : Int) := by omega
    rw [redraftref02_upTo.l0, if_pos q1, w3, if_pos q3, if_pos q2, rd_get hml]
    by_cases hx : l[m] ≤ x
    · rw [if_pos hx, w4]
      have g1 : hi ≤ m + 1 + d := by omega
      have g2 : m + 1 ≤ hi := by omega
      exact ih k (m + 1) hi g1 g2 h3 (fun i h hi' => Int.le_trans (hmono i m h hml (Nat.le_of_lt_succ hi')) hx) hB (by omega)
    · rw [if_neg hx]
      have g1 : m ≤ lo + d := by omega
      exact ih k lo m g1 m1 (by omega) hA (fun i h hi' => Int.lt_of_lt_of_le (Int.not_le.1 hx) (hmono m i hml h hi')) (by omega)
  · rw [redraftref02_upTo.l0, if_neg (by omega)]
    exact ⟨lo, rfl, by omega, hA, fun i h hi' => hB i h (by omega)⟩
theorem upTo_is (l : List Int) (x : Int) (hl : l.length ≤ 4398046511104) (hs : l.Pairwise (· ≤ ·)) (r : Nat) (hr : r ≤ l.length) (hA : ∀ i (h : i < l.length), i < r → l[i] ≤ x) (hB : ∀ i (h : i < l.length), r ≤ i → x < l[i]) : ∀ k, l.length + 1 ≤ k → redraftref02_upTo.f k l x = some (r : Int) := by
 intro k hk
 obtain ⟨q, e, h1, h2, h3⟩ := upTo_loop l x hl hs l.length k 0 l.length (by omega) (by omega) (Nat.le_refl _) (fun _ _ h => absurd h (by omega)) (fun i h h' => absurd h (by omega)) (by omega)
 have : q = r := by
  rcases Nat.lt_trichotomy q r with h | h | h
  · have a := hA q (by omega) h; have b := h3 q (by omega) (Nat.le_refl _); omega
  · exact h
  · have a := h2 r (by omega) h; have b := hB r (by omega) (Nat.le_refl _); omega
 unfold redraftref02_upTo.f
 rw [← this]; exact e
end Go.Proofs.YtloccjkcmlkifaaDoor
end

section
/- The document's Places, of parts that lie in order: what touches is joined. -/
namespace Go.Proofs.YtloccjkcmlkifaaDoor
open Go.RowKit Go.Proofs.YtloccjkcmlkifaaDoor.PAll Go.Proofs.YtloccjkcmlkifaaDoorW.PrintWords

def Wk : List S94 → Prop
 | [] => True
 | [r] => r.f0 < r.f1
 | r :: s :: t => r.f0 < r.f1 ∧ r.f1 ≤ s.f0 ∧ Wk (s :: t)
theorem Wk.head {r : S94} {t : List S94} (h : Wk (r :: t)) : r.f0 < r.f1 := by
 cases t with
 | nil => exact h
 | cons s t => exact h.1
theorem Wk.tail {r : S94} {t : List S94} (h : Wk (r :: t)) : Wk t := by
 cases t with
 | nil => trivial
 | cons s t => exact h.2.2
theorem Wk.far {r : S94} : ∀ {t : List S94}, Wk (r :: t) → ∀ s ∈ t, r.f1 ≤ s.f0
 | [], _, _, hs => by cases hs
 | u :: t, h, s, hs => by
  rcases List.mem_cons.1 hs with rfl | hs
  · exact h.2.1
  · have := Wk.far (h.2.2) s hs
    have := Wk.head h.2.2
    have := h.2.1
    omega
theorem Wk.mem : ∀ {l : List S94}, Wk l → ∀ r ∈ l, r.f0 < r.f1
 | _ :: _, h, r, hr => by
  rcases List.mem_cons.1 hr with rfl | hr
  · exact h.head
  · exact Wk.mem h.tail r hr
theorem Wk.at_ : ∀ {l : List S94}, Wk l → ∀ i j (hi : i < l.length) (hj : j < l.length), i < j → l[i].f1 ≤ l[j].f0
 | r :: t, h, 0, j + 1, _, hj, _ => h.far _ (List.getElem_mem _)
 | r :: t, h, i + 1, j + 1, hi, hj, hij => Wk.at_ h.tail i j (by simpa using hi) (by simpa using hj) (by omega)
def cutsOf (l : List S94) : List Int := l.flatMap fun r => [r.f0, r.f1]
theorem cuts_len (l : List S94) : (cutsOf l).length = 2 * l.length := by
 induction l with
 | nil => rfl
 | cons r t ih => simp only [cutsOf, List.flatMap_cons, List.length_append, List.length_cons, List.length_nil] at *; omega
theorem cuts_get : ∀ (l : List S94) (j : Nat) (h : j < l.length), (cutsOf l)[2 * j]? = some l[j].f0 ∧ (cutsOf l)[2 * j + 1]? = some l[j].f1
 | r :: t, 0, _ => ⟨rfl, rfl⟩
 | r :: t, j + 1, h => by
  have := cuts_get t j (by simpa using h)
  have e : cutsOf (r :: t) = r.f0 :: r.f1 :: cutsOf t := rfl
  rw [e, show 2 * (j + 1) = 2 * j + 1 + 1 by omega]
  simpa using this
theorem cuts_perm : ∀ l : List S94, (cutsOf l).Perm (l.map (·.f0) ++ l.map (·.f1))
 | [] => List.Perm.refl _
 | r :: t => by
  have e : cutsOf (r :: t) = r.f0 :: r.f1 :: cutsOf t := rfl
  rw [e]
  simp only [List.map_cons, List.cons_append]
  refine List.Perm.cons _ ?_
  refine ((cuts_perm t).cons r.f1).trans ?_
  exact List.perm_middle.symm
theorem cuts_mem {l : List S94} {x : Int} (h : x ∈ cutsOf l) : ∃ s ∈ l, x = s.f0 ∨ x = s.f1 := by
 simp only [cutsOf, List.mem_flatMap] at h
 obtain ⟨s, hs, hx⟩ := h
 exact ⟨s, hs, by simpa using hx⟩
theorem cuts_sorted : ∀ {l : List S94}, Wk l → (cutsOf l).Pairwise (fun x y => leB x y = true)
 | [], _ => List.Pairwise.nil
 | r :: t, h => by
  have e : cutsOf (r :: t) = r.f0 :: r.f1 :: cutsOf t := rfl
  have hh := h.head
  have hall : ∀ x ∈ cutsOf t, r.f1 ≤ x := fun x hx => by
   obtain ⟨s, hs, hx⟩ := cuts_mem hx
   have h1 := h.far s hs
   have h2 := Wk.mem h.tail s hs
   omega
  rw [e, List.pairwise_cons, List.pairwise_cons]
  refine ⟨fun x hx => ?_, fun x hx => ?_, cuts_sorted h.tail⟩
  · rcases List.mem_cons.1 hx with rfl | hx
    · exact decide_eq_true (by omega)
    · have := hall x hx; exact decide_eq_true (by omega)
  · exact decide_eq_true (hall x hx)
theorem los_sorted {l : List S94} (h : Wk l) : (l.map (·.f0)).Pairwise (fun x y => x < y) := by
 rw [List.pairwise_iff_getElem]
 intro i j hi hj hij
 simp only [List.length_map] at hi hj
 have h1 := h.at_ i j hi hj hij
 have h2 := Wk.mem h l[i] (List.getElem_mem _)
 simp only [List.getElem_map]; omega
theorem his_sorted {l : List S94} (h : Wk l) : (l.map (·.f1)).Pairwise (fun x y => x < y) := by
 rw [List.pairwise_iff_getElem]
 intro i j hi hj hij
 simp only [List.length_map] at hi hj
 have h1 := h.at_ i j hi hj hij
 have h2 := Wk.mem h l[j] (List.getElem_mem _)
 simp only [List.getElem_map]; omega
def inAt (l : List S94) (i : Nat) : Bool := if i % 2 = 0 then true else decide (i / 2 + 1 < l.length ∧ (l.getD (i / 2 + 1) z94).f0 = (l.getD (i / 2) z94).f1)
theorem up_lo {l : List S94} (h : Wk l) (hl : l.length ≤ 1099511627776) (i : Nat) (hi : i < 2 * l.length) (k : Nat) (hk : 2 * l.length + 2 ≤ k) :
 ∃ p q : Nat, redraftref02_upTo.f k (l.map (·.f0)) (rd (cutsOf l) (i : Int)) = some (p : Int) ∧ redraftref02_upTo.f k (l.map (·.f1)) (rd (cutsOf l) (i : Int)) = some (q : Int) ∧ decide ((p : Int) > (q : Int)) = inAt l i := by
 have slo := (los_sorted h).imp (S := fun x y => x ≤ y) (fun h => Int.le_of_lt h)
 have shi := (his_sorted h).imp (S := fun x y => x ≤ y) (fun h => Int.le_of_lt h)
 obtain ⟨j, hj⟩ : ∃ j, j = i / 2 := ⟨_, rfl⟩
 have hjl : j < l.length := by omega
 have hg := cuts_get l j hjl
 have hw := Wk.mem h l[j] (List.getElem_mem _)
 by_cases he : i % 2 = 0
 · have hr : rd (cutsOf l) (i : Int) = l[j].f0 := by
    unfold rd; rw [Int.toNat_natCast, List.getD_eq_getElem?_getD, show i = 2 * j by omega, hg.1]; rfl
   rw [hr]
   refine ⟨j + 1, j, upTo_is _ _ (by simp; omega) slo _ (by simp; omega) (fun i' h1 h2 => ?_) (fun i' h1 h2 => ?_) k (by simp; omega), upTo_is _ _ (by simp; omega) shi _ (by simp; omega) (fun i' h1 h2 => ?_) (fun i' h1 h2 => ?_) k (by simp; omega), ?_⟩
   · simp only [List.length_map] at h1
     simp only [List.getElem_map]
     by_cases hq : i' = j
     · subst hq; exact Int.le_refl _
     · have a1 := h.at_ i' j h1 hjl (by omega)
       have a2 := Wk.mem h l[i'] (List.getElem_mem _)
       omega
   · simp only [List.length_map] at h1
     simp only [List.getElem_map]
     have a1 := h.at_ j i' hjl h1 (by omega)
     omega
   · simp only [List.length_map] at h1
     simp only [List.getElem_map]
     exact h.at_ i' j h1 hjl (by omega)
   · simp only [List.length_map] at h1
     simp only [List.getElem_map]
     by_cases hq : i' = j
     · subst hq; exact hw
     · have a1 := h.at_ j i' hjl h1 (by omega)
       have a2 := Wk.mem h l[i'] (List.getElem_mem _)
       omega
   · unfold inAt
     rw [if_pos he]
     exact decide_eq_true (by omega)
 · have hr : rd (cutsOf l) (i : Int) = l[j].f1 := by
    unfold rd; rw [Int.toNat_natCast, List.getD_eq_getElem?_getD, show i = 2 * j + 1 by omega, hg.2]; rfl
   have hE : redraftref02_upTo.f k (l.map (·.f1)) l[j].f1 = some ((j + 1 : Nat) : Int) := by
    refine upTo_is _ _ (by simp; omega) shi _ (by simp; omega) (fun i' h1 h2 => ?_) (fun i' h1 h2 => ?_) k (by simp; omega)
    · simp only [List.length_map] at h1
      simp only [List.getElem_map]
      by_cases hq : i' = j
      · subst hq; exact Int.le_refl _
      · have a1 := h.at_ i' j h1 hjl (by omega)
        omega
    · simp only [List.length_map] at h1
      simp only [List.getElem_map]
      have a1 := h.at_ j i' hjl h1 (by omega)
      have a2 := Wk.mem h l[i'] (List.getElem_mem _)
      omega
   rw [hr]
   by_cases hn : j + 1 < l.length ∧ (l.getD (j + 1) z94).f0 = (l.getD j z94).f1
   · obtain ⟨n1, n2⟩ := hn
     rw [List.getD_eq_getElem?_getD, List.getElem?_eq_getElem n1, List.getD_eq_getElem?_getD, List.getElem?_eq_getElem hjl] at n2
     simp only [Option.getD_some] at n2
     refine ⟨j + 2, j + 1, upTo_is _ _ (by simp; omega) slo _ (by simp; omega) (fun i' h1 h2 => ?_) (fun i' h1 h2 => ?_) k (by simp; omega), hE, ?_⟩
     · simp only [List.length_map] at h1
       simp only [List.getElem_map]
       by_cases hq : i' = j + 1
       · subst hq; omega
       · by_cases hq2 : i' = j
         · subst hq2; omega
         · have a1 := h.at_ i' j h1 hjl (by omega)
           have a2 := Wk.mem h l[i'] (List.getElem_mem _)
           omega
     · simp only [List.length_map] at h1
       simp only [List.getElem_map]
       have a1 := h.at_ (j + 1) i' n1 h1 (by omega)
       have a2 := Wk.mem h l[j + 1] (List.getElem_mem _)
       omega
     · unfold inAt
       rw [if_neg he, ← hj]
       rw [decide_eq_true (show ((j + 2 : Nat) : Int) > ((j + 1 : Nat) : Int) by omega)]
       refine (decide_eq_true ⟨n1, ?_⟩).symm
       rw [List.getD_eq_getElem?_getD, List.getElem?_eq_getElem n1, List.getD_eq_getElem?_getD, List.getElem?_eq_getElem hjl]
       exact n2
   · refine ⟨j + 1, j + 1, upTo_is _ _ (by simp; omega) slo _ (by simp; omega) (fun i' h1 h2 => ?_) (fun i' h1 h2 => ?_) k (by simp; omega), hE, ?_⟩
     · simp only [List.length_map] at h1
       simp only [List.getElem_map]
       by_cases hq2 : i' = j
       · subst hq2; omega
       · have a1 := h.at_ i' j h1 hjl (by omega)
         have a2 := Wk.mem h l[i'] (List.getElem_mem _)
         omega
     · simp only [List.length_map] at h1
       simp only [List.getElem_map]
       have a1 := h.at_ j i' hjl h1 (by omega)
       by_cases hq : i' = j + 1
       · subst hq
         have : ¬ l[j + 1].f0 = l[j].f1 := fun e => hn ⟨h1, by
          rw [List.getD_eq_getElem?_getD, List.getElem?_eq_getElem h1, List.getD_eq_getElem?_getD, List.getElem?_eq_getElem hjl]; exact e⟩
         omega
       · have a3 := h.at_ (j + 1) i' (by omega) h1 (by omega)
         have a4 := Wk.mem h l[j + 1] (List.getElem_mem _)
         have a5 := h.at_ j (j + 1) hjl (by omega) (by omega)
         omega
     · unfold inAt
       rw [if_neg he, ← hj, decide_eq_false hn]
       exact decide_eq_false (by omega)
end Go.Proofs.YtloccjkcmlkifaaDoor
end

section
/- The document's Places of parts in order: the loops. -/
namespace Go.Proofs.YtloccjkcmlkifaaDoor
open Go.RowKit Go.Proofs.YtloccjkcmlkifaaDoor.PAll Go.Proofs.YtloccjkcmlkifaaDoorW.PrintWords

def jn (out : List S94) (r : S94) : List S94 :=
 if 0 < out.length ∧ (out.getD (out.length - 1) z94).f1 = r.f0 then out.set (out.length - 1) ⟨(out.getD (out.length - 1) z94).f0, r.f1⟩ else out ++ [r]
theorem jn_len (out : List S94) (r : S94) : (jn out r).length ≤ out.length + 1 := by
 unfold jn
 split <;> simp
theorem rd_cuts0 (l : List S94) (j : Nat) (h : j < l.length) : rd (cutsOf l) ((2 * j : Nat) : Int) = (l.getD j z94).f0 := by
 unfold rd; rw [Int.toNat_natCast, List.getD_eq_getElem?_getD, (cuts_get l j h).1, List.getD_eq_getElem?_getD, List.getElem?_eq_getElem h]; rfl
theorem rd_cuts1 (l : List S94) (j : Nat) (h : j < l.length) : rd (cutsOf l) ((2 * j + 1 : Nat) : Int) = (l.getD j z94).f1 := by
 unfold rd; rw [Int.toNat_natCast, List.getD_eq_getElem?_getD, (cuts_get l j h).2, List.getD_eq_getElem?_getD, List.getElem?_eq_getElem h]; rfl
theorem joined_loop (l : List S94) (ins : List Bool) (hw : Wk l) (hl : l.length ≤ 1099511627776) (hi : ins.length = 2 * l.length) (hin : ∀ i, i < 2 * l.length → ins.getD i false = inAt l i) :
 ∀ (d k j : Nat) (out : List S94), l.length = j + d → out.length ≤ j → 4 * d + 2 ≤ k → redraftref02_joined.l0 k (cutsOf l) ins out ((2 * j : Nat) : Int) = some ((l.drop j).foldl jn out) := by
 have hc := cuts_len l
 intro d
 induction d with
 | zero =>
  intro k j out h1 h2 hk
  obtain ⟨k, rfl⟩ : ∃ m, k = m + 1 := ⟨k - 1, by omega⟩
  have w : wrap64 (((2 * j : Nat) : Int) + 1) = ((2 * j + 1 : Nat) : Int) := by clear hin hk; rw [wrap_id (by omega) (by omega)]; omega
  rw [redraftref02_joined.l0, w, if_neg (by omega), List.drop_eq_nil_of_le (by omega)]
  rfl
 | succ d ih =>
  intro k j out h1 h2 hk
  obtain ⟨k, rfl⟩ : ∃ m, k = m + 4 := ⟨k - 4, by omega⟩
  have hj : j < l.length := by omega
  have w : wrap64 (((2 * j : Nat) : Int) + 1) = ((2 * j + 1 : Nat) : Int) := by clear hin hk ih; rw [wrap_id (by omega) (by omega)]; omega
  have w2 : wrap64 (((2 * j + 1 : Nat) : Int) + 1) = ((2 * (j + 1) : Nat) : Int) := by clear hin hk ih; rw [wrap_id (by omega) (by omega)]; omega
  have e : rdOf false ins ((2 * j : Nat) : Int) = true := by
   unfold rdOf; rw [Int.toNat_natCast, hin _ (by omega)]
   unfold inAt; rw [if_pos (by omega)]
  have hlt : (l.getD j z94).f0 < (l.getD j z94).f1 := by
   rw [List.getD_eq_getElem?_getD, List.getElem?_eq_getElem hj]
   exact Wk.mem hw l[j] (List.getElem_mem _)
  -- behind the first round
  have hrest : ∀ out' : List S94, out'.length ≤ j + 1 → redraftref02_joined.l0 (k + 2) (cutsOf l) ins out' ((2 * j + 1 : Nat) : Int) = some ((l.drop (j + 1)).foldl jn out') := fun out' ho => by
   by_cases hn : j + 1 < l.length
   · have q1 : (((2 * (j + 1) : Nat)) : Int) < ((cutsOf l).length : Int) := by omega
     have q2 : ((2 * j + 1 : Nat) : Int) < (ins.length : Int) := by omega
     have q3 : ((2 * j + 1 : Nat) : Int) < ((cutsOf l).length : Int) := by omega
     rw [show k + 2 = (k + 1) + 1 from rfl, redraftref02_joined.l0, w2, if_pos q1, if_pos (by omega), if_pos q2]
     by_cases hb : rdOf false ins ((2 * j + 1 : Nat) : Int) = true
     · have hb' : inAt l (2 * j + 1) = true := by
        rw [← hin _ (by omega)]
        unfold rdOf at hb; rwa [Int.toNat_natCast] at hb
       unfold inAt at hb'
       rw [if_neg (by omega), show (2 * j + 1) / 2 = j by omega] at hb'
       have hq := (of_decide_eq_true hb').2
       rw [if_pos hb, if_pos q3, if_pos (by omega), rd_cuts1 l j hj, rd_cuts0 l (j + 1) hn, hq, beq_self_eq_true, redraftref02_joined.j1, if_pos rfl, w2]
       exact ih k (j + 1) out' (by omega) ho (by omega)
     · rw [if_neg hb, redraftref02_joined.j1, if_pos rfl, w2]
       exact ih k (j + 1) out' (by omega) ho (by omega)
   · have q1 : ¬ (((2 * (j + 1) : Nat)) : Int) < ((cutsOf l).length : Int) := by omega
     rw [show k + 2 = (k + 1) + 1 from rfl, redraftref02_joined.l0, w2, if_neg q1, List.drop_eq_nil_of_le (by omega)]
     rfl
  have q1 : ((2 * j + 1 : Nat) : Int) < ((cutsOf l).length : Int) := by omega
  have q2 : ((2 * j : Nat) : Int) < (ins.length : Int) := by omega
  have q3 : ((2 * j : Nat) : Int) < ((cutsOf l).length : Int) := by omega
  have q4 : (0 : Int) ≤ ((2 * j : Nat) : Int) := by omega
  have q5 : (0 : Int) ≤ ((2 * j + 1 : Nat) : Int) := by omega
  have hd : l.drop j = l.getD j z94 :: l.drop (j + 1) := by
   rw [List.drop_eq_getElem_cons hj, List.getD_eq_getElem?_getD, List.getElem?_eq_getElem hj]; rfl
  have hol : out.length < 8796093022208 := by omega
  rw [hd, List.foldl_cons, ← hrest _ (Nat.le_trans (jn_len out _) (by omega))]
  rw [show k + 4 = (k + 3) + 1 from rfl, redraftref02_joined.l0, w, if_pos q1, if_pos q4, if_pos q2, if_pos e, if_pos q3, if_pos q5, rd_cuts0 l j hj, rd_cuts1 l j hj]
  rw [beq_eq_false_iff_ne.mpr (show (l.getD j z94).f0 ≠ (l.getD j z94).f1 by omega), show k + 3 = (k + 2) + 1 from rfl, redraftref02_joined.j1, if_neg (by simp)]
  unfold jn
  by_cases ho : 0 < out.length
  · have wo : wrap64 ((out.length : Int) - 1) = ((out.length - 1 : Nat) : Int) := by clear hin hk ih hrest; rw [wrap_id (by omega) (by omega)]; omega
    have eo : rd_T94 out ((out.length - 1 : Nat) : Int) = out.getD (out.length - 1) z94 := by unfold rd_T94; rw [Int.toNat_natCast]
    rw [if_pos (show (out.length : Int) > 0 by omega), wo, if_pos (by omega), if_pos (by omega), if_pos q4, if_pos q3, eo, rd_cuts0 l j hj]
    by_cases hm : (out.getD (out.length - 1) z94).f1 = (l.getD j z94).f0
    · rw [if_pos hm, w, if_pos q5, if_pos q1, rd_cuts1 l j hj, Int.toNat_natCast, if_pos ⟨ho, hm⟩]
    · rw [if_neg hm, w, if_pos q5, if_pos q1, if_pos hol, rd_cuts1 l j hj, if_neg (fun h => hm h.2)]
  · rw [if_neg (show ¬ (out.length : Int) > 0 by omega), if_pos q4, if_pos q3, w, if_pos q5, if_pos q1, if_pos hol, rd_cuts0 l j hj, rd_cuts1 l j hj, if_neg (fun h => ho h.1)]
theorem ins_loop (l : List S94) (hw : Wk l) (hl : l.length ≤ 1099511627776) : ∀ (d k i : Nat) (x : List Bool), 2 * l.length = i + d → x.length = 2 * l.length → (∀ q, q < i → x.getD q false = inAt l q) → 4 * l.length + 2 * d + 6 ≤ k →
 redraftref02_Places.l1 k (l.map (·.f0)) (l.map (·.f1)) (cutsOf l) x (i : Int) = some (l.foldl jn []) := by
 have hc := cuts_len l
 intro d
 induction d with
 | zero =>
  intro k i x h1 h2 h3 hk
  obtain ⟨k, rfl⟩ : ∃ m, k = m + 1 := ⟨k - 1, by omega⟩
  have hj := joined_loop l x hw hl h2 (fun q hq => h3 q (by omega)) l.length k 0 [] (by omega) (by simp) (by omega)
  rw [redraftref02_Places.l1, if_neg (by omega)]
  unfold redraftref02_joined.f
  rw [List.drop_zero] at hj
  have hj' : redraftref02_joined.l0 k (cutsOf l) x [] 0 = some (l.foldl jn []) := hj
  rw [hj']
  rfl
 | succ d ih =>
  intro k i x h1 h2 h3 hk
  obtain ⟨k, rfl⟩ : ∃ m, k = m + 1 := ⟨k - 1, by omega⟩
  have w : wrap64 ((i : Int) + 1) = ((i + 1 : Nat) : Int) := by clear h3 hk ih; rw [wrap_id (by omega) (by omega)]; omega
  obtain ⟨p, q, e1, e2, e3⟩ := up_lo hw hl i (by omega) k (by omega)
  rw [redraftref02_Places.l1, if_pos (by omega), if_pos (by omega), e1]
  simp only [Option.bind_some]
  rw [e2]
  simp only [Option.bind_some]
  rw [if_pos (by omega), e3, w, Int.toNat_natCast]
  refine ih k (i + 1) _ (by omega) (by simpa using h2) (fun q' hq' => ?_) (by omega)
  rw [List.getD_eq_getElem?_getD, List.getElem?_set]
  by_cases hqi : i = q'
  · subst hqi
    rw [if_pos rfl, if_pos (by omega)]
    rfl
  · rw [if_neg hqi, ← List.getD_eq_getElem?_getD]
    exact h3 q' (by omega)
theorem places_is (l : List S94) (hw : Wk l) (hl : l.length ≤ 1099511627776) : Ev (fun k => redraftref02_Places.f k l) (l.foldl jn []) := by
 have hc := cuts_len l
 obtain ⟨K1, e1⟩ := sorted_is (l.map (·.f0)) (l.map (·.f0)) (by simp; omega) ((los_sorted hw).imp (fun h => decide_eq_true (Int.le_of_lt h))) (List.Perm.refl _)
 obtain ⟨K2, e2⟩ := sorted_is (l.map (·.f1)) (l.map (·.f1)) (by simp; omega) ((his_sorted hw).imp (fun h => decide_eq_true (Int.le_of_lt h))) (List.Perm.refl _)
 obtain ⟨K3, e3⟩ := sorted_is (l.map (·.f0) ++ l.map (·.f1)) (cutsOf l) (by simp; omega) (cuts_sorted hw) (cuts_perm l)
 dsimp only at e1 e2 e3
 have hloop : ∀ (d k j : Nat), l.length = j + d → K1 + K2 + K3 + 8 * l.length + 10 + d ≤ k → redraftref02_Places.l0 k l ((l.take j).map (·.f0)) ((l.take j).map (·.f1)) (j : Int) = some (l.foldl jn []) := by
  intro d
  induction d with
  | zero =>
   intro k j h1 hk
   obtain ⟨k, rfl⟩ : ∃ m, k = m + 1 := ⟨k - 1, by omega⟩
   rw [redraftref02_Places.l0, if_neg (by omega), List.take_of_length_le (by omega), e1 k (by omega)]
   simp only [Option.bind_some]
   rw [e2 k (by omega)]
   simp only [Option.bind_some]
   rw [if_pos (by simp; omega)]
   simp only [List.nil_append]
   rw [if_pos (by simp; omega), e3 k (by omega)]
   simp only [Option.bind_some]
   rw [if_pos (by omega), Int.toNat_natCast, if_pos (by omega), hc]
   exact ins_loop l hw hl (2 * l.length) k 0 _ (by omega) (by simp) (fun q h => absurd h (by omega)) (by omega)
  | succ d ih =>
   intro k j h1 hk
   obtain ⟨k, rfl⟩ : ∃ m, k = m + 1 := ⟨k - 1, by omega⟩
   have hj : j < l.length := by omega
   have w : wrap64 ((j : Int) + 1) = ((j + 1 : Nat) : Int) := by clear hk ih; rw [wrap_id (by omega) (by omega)]; omega
   have e : rd_T94 l (j : Int) = l[j] := by unfold rd_T94; rw [Int.toNat_natCast, List.getD_eq_getElem?_getD, List.getElem?_eq_getElem hj]; rfl
   have t0 : (l.take j).map (·.f0) ++ [l[j].f0] = (l.take (j + 1)).map (·.f0) := by rw [List.take_succ_eq_append_getElem hj, List.map_append]; rfl
   have t1 : (l.take j).map (·.f1) ++ [l[j].f1] = (l.take (j + 1)).map (·.f1) := by rw [List.take_succ_eq_append_getElem hj, List.map_append]; rfl
   rw [redraftref02_Places.l0, if_pos (by omega), if_pos (by omega), if_pos (by simp; omega), if_pos (by simp; omega), e, w, t0, t1]
   exact ih k (j + 1) (by omega) (by omega)
 exact ⟨K1 + K2 + K3 + 8 * l.length + 10 + l.length, fun k hk => hloop l.length k 0 (by omega) (by omega)⟩
def Gap : List S94 → Prop
 | [] => True
 | [r] => r.f0 < r.f1
 | r :: s :: t => r.f0 < r.f1 ∧ r.f1 < s.f0 ∧ Gap (s :: t)
theorem Gap.wk : ∀ {l : List S94}, Gap l → Wk l
 | [], _ => trivial
 | [_], h => h
 | _ :: _ :: _, h => ⟨h.1, Int.le_of_lt h.2.1, h.2.2.wk⟩
theorem jn_snoc (out : List S94) (s r : S94) : jn (out ++ [s]) r = if s.f1 = r.f0 then out ++ [⟨s.f0, r.f1⟩] else out ++ [s] ++ [r] := by
 unfold jn
 have e : (out ++ [s]).getD ((out ++ [s]).length - 1) z94 = s := by rw [List.getD_eq_getElem?_getD]; simp
 rw [e]
 by_cases h : s.f1 = r.f0
 · rw [if_pos ⟨by simp, h⟩, if_pos h]
   simp
 · rw [if_neg (fun q => h q.2), if_neg h]
theorem gap_fold : ∀ (l out : List S94) (s : S94), Gap (s :: l) → l.foldl jn (out ++ [s]) = out ++ [s] ++ l
 | [], out, s, _ => by simp
 | r :: t, out, s, h => by
  rw [List.foldl_cons, jn_snoc, if_neg (by have := h.2.1; omega), gap_fold t (out ++ [s]) r h.2.2]
  simp
theorem gap_join (l : List S94) (h : Gap l) : l.foldl jn [] = l := by
 cases l with
 | nil => rfl
 | cons r t =>
  have := gap_fold t [] r h
  simpa [jn] using this
end Go.Proofs.YtloccjkcmlkifaaDoor
end

section
/- A load of a wide record, as one step of a walk: its cells are told one by one. -/
namespace Go.Proofs.YtloccjkcmlkifaaDoor
open Go.RowKit

def atL (w : World) (ad : Addr) : Nat → List Value → Prop
 | _, [] => True
 | j, v :: r => w.cell? (ad.add j) = some v ∧ atL w ad (j + 1) r
theorem atL_get {w : World} {ad : Addr} : ∀ {cs : List Value} {o : Nat}, atL w ad o cs → ∀ j v, cs[j]? = some v → w.cell? (ad.add (o + j)) = some v
 | [], _, _, j, v, h => by simp at h
 | x :: r, o, ⟨h0, hr⟩, 0, v, h => by
  simp only [List.getElem?_cons_zero, Option.some.injEq] at h
  subst h; exact h0
 | x :: r, o, ⟨h0, hr⟩, j + 1, v, h => by
  simp only [List.getElem?_cons_succ] at h
  have := atL_get hr j v h
  rw [show o + 1 + j = o + (j + 1) by omega] at this
  exact this
theorem run_load_wide {P : Program} (w : World) (ad : Addr) (ty : TypeId) (cs : List Value) (d : TypeDesc) (hc : atL w ad 0 cs)
 (hu : P.underlying ty = some d) (hd : (match d with | .struct _ | .array _ _ => true | _ => false) = true) (hi : (P.info? ty).map (·.size) = some cs.length) :
 (loadVar ty ad).run P w = .ok (.agg cs.toArray) w := by
 have hl : (loadCells ad cs.length).run P w = .ok cs.toArray w :=
  run_loadCells_list (P := P) w ad cs (fun j v hv => by
   have := atL_get hc j v hv
   rw [Nat.zero_add] at this
   exact this)
 cases hq : P.info? ty with
 | none => simp [hq] at hi
 | some i =>
  have hs : i.size = cs.length := by simpa [hq] using hi
  have hagg : (isAgg ty).run P w = .ok true w := by
   unfold isAgg
   rw [Sem.run_bind, run_underlying hu w]
   cases d <;> simp_all
  simp [loadVar, Sem.run_bind, hagg, sizeOf, typeInfo, hq, hs, hl]
theorem atL_mk {w : World} {ad : Addr} : ∀ {cs : List Value} {o : Nat}, (∀ j v, cs[j]? = some v → w.cell? (ad.add (o + j)) = some v) → atL w ad o cs
 | [], _, _ => trivial
 | x :: r, o, h => ⟨h 0 x rfl, atL_mk fun j v hj => by
  have := h (j + 1) v (by simpa using hj)
  rw [show o + 1 + j = o + (j + 1) by omega]
  exact this⟩
theorem atL_blk {w : World} {g : Nat} {t : TypeId} {cs : List Value} (h : w.heap[g]? = some (.cells cs.toArray t (0, 0))) : atL w ⟨g, 0, none⟩ 0 cs :=
 atL_mk fun j v hj => by
  have hadd : (⟨g, 0, none⟩ : Addr).add (0 + j) = ⟨g, j, none⟩ := by unfold Addr.add; split <;> simp_all
  rw [hadd, Go.Proofs.YtloccjkcmlkifaaDoorW.PrintWords.blk_cell h]
  simpa using hj
theorem blk_setCells {g : Nat} {t : TypeId} : ∀ (vs : List Value) (pre old : List Value) (W : World), W.heap[g]? = some (.cells (pre ++ old).toArray t (0, 0)) → old.length = vs.length →
 (W.setCells g pre.length vs).heap[g]? = some (.cells (pre ++ vs).toArray t (0, 0))
 | [], pre, old, W, h, hl => by
  obtain rfl : old = [] := by simpa using hl
  exact h
 | _ :: _, _, [], _, _, hl => by simp at hl
 | v :: r, pre, u :: q, W, h, hl => by
  have h1 := Go.Proofs.YtloccjkcmlkifaaDoorW.PrintWords.blk_put h pre.length v (cs' := ((pre ++ [v]) ++ q).toArray) (by simp)
  have := blk_setCells r (pre ++ [v]) q (W.setCell ⟨g, pre.length, none⟩ v) h1 (by simpa using hl)
  simpa [World.setCells] using this
theorem below_setCells {g : Nat} {w0 : World} : ∀ (vs : List Value) (o : Nat) (W : World), Below w0.heap.size w0 W → w0.heap.size ≤ g → Below w0.heap.size w0 (W.setCells g o vs)
 | [], _, _, h, _ => h
 | _ :: r, o, _, h, hg => below_setCells r (o + 1) _ (h.setCell hg _) hg
end Go.Proofs.YtloccjkcmlkifaaDoor
end
