/- XformEarlierLeft_card, part 44. -/
import Derived.Test.YtloccjkcmlkifaaDoorQEl43
import Derived.Test.YtloccjkcmlkifaaDoorQEl37
import Derived.Test.YtloccjkcmlkifaaDoorQEl39
import Derived.Test.YtloccjkcmlkifaaDoorQEl40
import Derived.Test.YtloccjkcmlkifaaDoorQEl29
import Derived.Test.YtloccjkcmlkifaaDoorQEl34
import Derived.Test.YtloccjkcmlkifaaDoorQEl35
import Derived.Test.YtloccjkcmlkifaaDoorQEl18
import Derived.Test.YtloccjkcmlkifaaDoorQEl31

section
/- What an operation makes of a row of cells, as plain lists: does, fold. -/
namespace Go.Proofs.YtloccjkcmlkifaaDoor
open Go.RowKit Go.Proofs.YtloccjkcmlkifaaDoor.PAll Go.Proofs.YtloccjkcmlkifaaDoorW.PrintWords

def txL : List ByteArray := [⟨#[97]⟩, ⟨#[97, 195, 169]⟩, ⟨#[226, 130, 172, 97, 195, 169]⟩, ⟨#[122, 195, 169, 240, 159, 152, 128, 97]⟩, ⟨#[97, 98, 99, 100, 101]⟩]
def tx (j : Nat) : ByteArray := txL.getD j ⟨#[]⟩
theorem tx_chk (j : Nat) (h : j < 5) : (chk (tx j)).1 = (j : Int) + 1 ∧ (chk (tx j)).2.2 = 0 ∧ (tx j).size ≤ 20 := by
 match j, h with
 | 0, _ => decide +kernel
 | 1, _ => decide +kernel
 | 2, _ => decide +kernel
 | 3, _ => decide +kernel
 | 4, _ => decide +kernel
structure Stands (o : S41) (n : Nat) : Prop where
 kind : 1 ≤ o.f0.f1 ∧ o.f0.f1 ≤ 4
 ins : o.f0.f1 = 1 → 0 ≤ o.f1 ∧ o.f1 ≤ (n : Int) ∧ ∃ j, j < 5 ∧ o.f2 = tx j
 cov : o.f0.f1 = 2 ∨ o.f0.f1 = 3 → 0 < o.f3.length ∧ Nrm (-1) o.f3 ∧ lastHi o.f3 ≤ (n : Int)
theorem Stands.wid {o : S41} {n : Nat} (h : Stands o n) : 0 ≤ wid o ∧ wid o ≤ 5 := by
 unfold Go.Proofs.YtloccjkcmlkifaaDoor.wid
 by_cases c : o.f0.f1 = 1
 · rw [if_pos c]
   obtain ⟨_, _, j, hj, e⟩ := h.ins c
   rw [e, (tx_chk j hj).1]; omega
 · rw [if_neg c]; omega
theorem lwidth_is {o : S41} {n : Nat} (h : Stands o n) : redraftlaw05_width.f 20 o.f0.f0.f0 o.f0.f0.f1 o.f0.f1 o.f1 o.f2 o.f3 o.f4.f0 o.f4.f1 o.f5 = some (wid o) := by
 unfold redraftlaw05_width.f Go.Proofs.YtloccjkcmlkifaaDoor.wid
 by_cases c : o.f0.f1 = 1
 · rw [if_pos c, if_pos c]
   obtain ⟨_, _, j, hj, e⟩ := h.ins c
   rw [e, (tx_chk j hj).1]
   generalize o.f0.f0.f0 = a, o.f0.f0.f1 = b, o.f0.f1 = d, o.f1 = p, o.f3 = l, o.f4.f0 = q, o.f4.f1 = r, o.f5 = s
   clear e c h
   rcases (by omega : j = 0 ∨ j = 1 ∨ j = 2 ∨ j = 3 ∨ j = 4) with rfl | rfl | rfl | rfl | rfl <;> kernel_rfl
 · rw [if_neg c, if_neg c]
def newC (o : S41) (k : Nat) : List S48 := (List.range k).map fun (i : Nat) => (⟨⟨o.f0.f0.f0, o.f0.f0.f1⟩, (i : Int), 0⟩ : S48)
def insC (l : List S48) (o : S41) : List S48 := l.take o.f1.toNat ++ newC o (wid o).toNat ++ l.drop o.f1.toNat
def bumpC (by_ : Int) (c : S48) : S48 := ⟨⟨c.f0.f0, c.f0.f1⟩, c.f1, wrap64 (c.f2 + by_)⟩
def inR (r : S94) (i : Nat) : Bool := decide (r.f0 ≤ (i : Int) ∧ (i : Int) < r.f1)
def covB (rs : List S94) (i : Nat) : Bool := rs.any (inR · i)
def hidC (by_ : Int) (rs : List S94) (l : List S48) : List S48 := l.mapIdx fun i c => if covB rs i = true then bumpC by_ c else c
def doesE (l : List S48) (o : S41) : List S48 := if o.f0.f1 = 1 then insC l o else if o.f0.f1 = 2 then hidC 1 o.f3 l else if o.f0.f1 = 3 then hidC (-1) o.f3 l else l
theorem hidC_len (b : Int) (rs : List S94) (l : List S48) : (hidC b rs l).length = l.length := by unfold hidC; simp
theorem hidC_at (b : Int) (rs : List S94) (l : List S48) (i : Nat) : (hidC b rs l)[i]? = (l[i]?).map fun c => if covB rs i = true then bumpC b c else c := by unfold hidC; rw [List.getElem?_mapIdx]
theorem insC_len (l : List S48) (o : S41) (h : o.f1.toNat ≤ l.length) : (insC l o).length = l.length + (wid o).toNat := by unfold insC newC; simp; omega
theorem nrm_at : ∀ {l : List S94} {x : Int} (i : Nat), Nrm x l → i < l.length → x < (l.getD i z94).f0 ∧ (l.getD i z94).f0 < (l.getD i z94).f1 ∧ (∀ j, j < i → (l.getD j z94).f1 < (l.getD i z94).f0)
 | r :: t, x, 0, h, _ => ⟨h.1, h.2.1, fun j hj => by omega⟩
 | r :: t, x, i + 1, h, hi => by
  obtain ⟨h1, h2, h3⟩ := nrm_at (l := t) i h.2.2.2 (by simpa using hi)
  have ha := h.1; have hb := h.2.1
  refine ⟨by rw [List.getD_cons_succ]; omega, by rw [List.getD_cons_succ]; exact h2, fun j hj => ?_⟩
  rw [List.getD_cons_succ]
  cases j with
  | zero => rw [List.getD_cons_zero]; exact h1
  | succ j => rw [List.getD_cons_succ]; exact h3 j (by omega)
theorem nrm_hi_last {l : List S94} {x : Int} (h : Nrm x l) (i : Nat) (hi : i < l.length) : (l.getD i z94).f1 ≤ lastHi l := by
 unfold lastHi
 by_cases c : i = l.length - 1
 · rw [← c]; exact Int.le_refl _
 · obtain ⟨_, h2, h3⟩ := nrm_at (l.length - 1) h (by omega)
   have := h3 i (by omega)
   omega
theorem covB_snoc (rs : List S94) (r : S94) (i : Nat) : covB (rs ++ [r]) i = (covB rs i || inR r i) := by unfold covB; simp
def bmp (b : Int) (lo i : Int) (l : List S48) : List S48 := l.mapIdx fun j c => if lo ≤ (j : Int) ∧ (j : Int) < i then bumpC b c else c
theorem bmp_len (b lo i : Int) (l : List S48) : (bmp b lo i l).length = l.length := by unfold bmp; simp
theorem bmp_at (b lo i : Int) (l : List S48) (j : Nat) : (bmp b lo i l)[j]? = (l[j]?).map fun c => if lo ≤ (j : Int) ∧ (j : Int) < i then bumpC b c else c := by unfold bmp; rw [List.getElem?_mapIdx]
theorem bmp_zero (b lo : Int) (l : List S48) : bmp b lo lo l = l := by
 refine List.ext_getElem? fun j => ?_
 rw [bmp_at]
 cases l[j]? with
 | none => rfl
 | some c => rw [Option.map_some, if_neg (by omega)]
theorem bmp_step (b lo : Int) (i : Nat) (l : List S48) (h : lo ≤ (i : Int)) (hi : i < l.length) : (bmp b lo i l).set i (bumpC b ((bmp b lo i l).getD i z48)) = bmp b lo ((i + 1 : Nat) : Int) l := by
 have e : (bmp b lo i l).getD i z48 = l.getD i z48 := by
  rw [List.getD_eq_getElem?_getD, bmp_at, List.getD_eq_getElem?_getD, List.getElem?_eq_getElem hi, Option.map_some, if_neg (by omega)]
 rw [e]
 refine List.ext_getElem? fun j => ?_
 rw [List.getElem?_set, bmp_len, bmp_at, bmp_at]
 by_cases c : i = j
 · subst c
   rw [if_pos rfl, if_pos hi, List.getElem?_eq_getElem hi, Option.map_some, if_pos ⟨h, by omega⟩, List.getD_eq_getElem?_getD, List.getElem?_eq_getElem hi]
   rfl
 · rw [if_neg c]
   cases l[j]? with
   | none => rfl
   | some x =>
    rw [Option.map_some, Option.map_some]
    by_cases c2 : lo ≤ (j : Int) ∧ (j : Int) < (i : Int)
    · rw [if_pos c2, if_pos ⟨c2.1, by omega⟩]
    · rw [if_neg c2, if_neg (fun h => c2 ⟨h.1, by omega⟩)]
theorem bmp_hid (b : Int) (rs : List S94) (i : Nat) (hi : i < rs.length) {x : Int} (hx : Nrm x rs) (l : List S48) : bmp b (rs.getD i z94).f0 (rs.getD i z94).f1 (hidC b (rs.take i) l) = hidC b (rs.take (i + 1)) l := by
 have ht : rs.take (i + 1) = rs.take i ++ [rs.getD i z94] := by
  rw [List.take_add_one, List.getElem?_eq_getElem hi, List.getD_eq_getElem?_getD, List.getElem?_eq_getElem hi]; rfl
 obtain ⟨_, _, h3⟩ := nrm_at i hx hi
 refine List.ext_getElem? fun j => ?_
 rw [bmp_at, hidC_at, hidC_at, ht]
 cases l[j]? with
 | none => rfl
 | some c =>
  simp only [Option.map_some]
  rw [covB_snoc]
  by_cases c2 : (rs.getD i z94).f0 ≤ (j : Int) ∧ (j : Int) < (rs.getD i z94).f1
  · have hn : covB (rs.take i) j = false := by
     unfold covB
     rw [List.any_eq_false]
     intro r hr
     obtain ⟨q, hq⟩ := List.mem_iff_getElem?.1 hr
     rw [List.getElem?_take] at hq
     by_cases hqi : q < i
     · rw [if_pos hqi] at hq
       have := h3 q hqi
       rw [List.getD_eq_getElem?_getD, hq] at this
       unfold inR
       rw [Option.getD_some] at this
       simp; omega
     · rw [if_neg hqi] at hq; cases hq
    have hin : inR (rs.getD i z94) j = true := by unfold inR; exact decide_eq_true c2
    rw [if_pos c2, hn, hin, if_neg (by simp), if_pos (by simp)]
  · have hin : inR (rs.getD i z94) j = false := by unfold inR; exact decide_eq_false c2
    rw [if_neg c2, hin, Bool.or_false]
section
variable (l0 : List S48) (b : Int) (a0 a1 a2 a3 : Int) (a4 : ByteArray) (rs : List S94) (a6 a7 : Int) (a8 : Bool)
theorem does_l2 (lo hi : Int) (i9 : Int) (l : List S48) (hh : hi ≤ (l.length : Int)) (hL : l.length ≤ 1048576) : ∀ (d k i : Nat), hi = (i : Int) + d → lo ≤ (i : Int) → d + 1 ≤ k →
 redraftlaw05_does.l2 k l0 (bmp b lo (i : Int) l) b i9 (i : Int) a0 a1 a2 a3 a4 rs a6 a7 a8 lo hi = redraftlaw05_does.l1 (k - (d + 1)) l0 (bmp b lo hi l) b (wrap64 (i9 + 1)) a0 a1 a2 a3 a4 rs a6 a7 a8 := by
 intro d
 induction d with
 | zero =>
  intro k i h1 h2 hk
  obtain ⟨k, rfl⟩ : ∃ m, k = m + 1 := ⟨k - 1, by omega⟩
  rw [redraftlaw05_does.l2, if_neg (by omega), show ((i : Nat) : Int) = hi by omega]
  rfl
 | succ d ih =>
  intro k i h1 h2 hk
  obtain ⟨k, rfl⟩ : ∃ m, k = m + 1 := ⟨k - 1, by omega⟩
  have hi' : i < l.length := by omega
  have w1 : wrap64 ((i : Int) + 1) = ((i + 1 : Nat) : Int) := by rw [wrap_id (by omega) (by omega)]; omega
  have e : rd_T48 (bmp b lo (i : Int) l) (i : Int) = (bmp b lo (i : Int) l).getD i z48 := by unfold rd_T48; rw [Int.toNat_natCast]
  have hs := bmp_step b lo i l h2 hi'
  rw [redraftlaw05_does.l2, if_pos (by omega), if_pos (by omega), if_pos (by rw [bmp_len]; omega), w1, e, Int.toNat_natCast]
  unfold bumpC at hs
  rw [hs, ih k (i + 1) (by omega) (by omega) (by omega), show k + 1 - (d + 1 + 1) = k - (d + 1) by omega]
theorem does_l1 (hR : Nrm (-1) rs) (hn : lastHi rs ≤ (l0.length : Int)) (hL : l0.length ≤ 4096) (hrl : rs.length ≤ 4096) : ∀ (d i : Nat), rs.length = i + d → Ev (fun k =>
 redraftlaw05_does.l1 k l0 (hidC b (rs.take i) l0) b (i : Int) a0 a1 a2 a3 a4 rs a6 a7 a8) (hidC b rs l0, decide (0 < rs.length)) := by
 intro d
 induction d with
 | zero =>
  intro i h1
  refine ⟨1, fun k hk => ?_⟩
  obtain ⟨k, rfl⟩ : ∃ m, k = m + 1 := ⟨k - 1, by omega⟩
  simp only
  rw [redraftlaw05_does.l1, if_neg (by omega), List.take_of_length_le (by omega)]
  congr 2
  simp
 | succ d ih =>
  intro i h1
  have hi : i < rs.length := by omega
  obtain ⟨K, hK⟩ := ih (i + 1) (by omega)
  clear ih
  simp only at hK
  obtain ⟨h2, h3, h4⟩ := nrm_at i hR hi
  have h5 := nrm_hi_last hR i hi
  have w1 : wrap64 ((i : Int) + 1) = ((i + 1 : Nat) : Int) := by rw [wrap_id (by omega) (by omega)]; omega
  obtain ⟨r, hr⟩ : ∃ r, r = rs.getD i z94 := ⟨_, rfl⟩
  have e : rd_T94 rs (i : Int) = r := by unfold rd_T94; rw [Int.toNat_natCast, hr]
  have hb := bmp_hid b rs i hi hR l0
  rw [← hr] at h2 h3 h4 h5 hb
  obtain ⟨lo, hlo⟩ : ∃ m : Nat, r.f0 = (m : Int) := ⟨r.f0.toNat, by omega⟩
  obtain ⟨hh, hhe⟩ : ∃ m : Nat, r.f1 = (m : Int) := ⟨r.f1.toNat, by omega⟩
  have g1 : hh ≤ 4096 ∧ lo < hh := by omega
  refine ⟨K + 5000, fun k hk => ?_⟩
  obtain ⟨k, rfl⟩ : ∃ m, k = m + 2 := ⟨k - 2, by omega⟩
  have g2 : K ≤ k - (hh - lo + 1) ∧ hh - lo + 1 ≤ k := by clear hK h4 w1; omega
  have go : redraftlaw05_does.j5 (k + 1) l0 (hidC b (rs.take i) l0) b (i : Int) false a0 a1 a2 a3 a4 rs a6 a7 a8 r.f0 r.f1 = some (hidC b rs l0, decide (0 < rs.length)) := by
   rw [redraftlaw05_does.j5, if_neg (by simp)]
   have q := does_l2 l0 b a0 a1 a2 a3 a4 rs a6 a7 a8 r.f0 r.f1 (i : Int) (hidC b (rs.take i) l0) (by rw [hidC_len]; omega) (by rw [hidC_len]; omega) (hh - lo) k lo (by omega) (by omega) g2.2
   rw [← hlo, bmp_zero] at q
   rw [q, w1, hb]
   exact hK _ g2.1
  clear g2 hK
  simp only
  rw [redraftlaw05_does.l1, if_pos (by omega), if_pos (by omega), e, if_neg (by omega), if_neg (by omega), if_neg (by omega)]
  by_cases c : (i : Int) > 0
  · have w2 : wrap64 ((i : Int) - 1) = ((i - 1 : Nat) : Int) := by rw [wrap_id (by omega) (by omega)]; omega
    have e2 : rd_T94 rs ((i - 1 : Nat) : Int) = rs.getD (i - 1) z94 := by unfold rd_T94; rw [Int.toNat_natCast]
    have := h4 (i - 1) (by omega)
    rw [if_pos c, w2, if_pos (by omega), if_pos (by omega), e2, decide_eq_false (by omega)]
    exact go
  · rw [if_neg c]; exact go
theorem does_l0 (o : S41) (hw : redraftlaw05_width.f 20 o.f0.f0.f0 o.f0.f0.f1 o.f0.f1 o.f1 o.f2 o.f3 o.f4.f0 o.f4.f1 o.f5 = some (wid o)) (hp : 0 ≤ o.f1 ∧ o.f1 ≤ (l0.length : Int)) (hw5 : 0 ≤ wid o ∧ wid o ≤ 5) (hL : l0.length ≤ 4096) : ∀ (d k i : Nat), wid o = (i : Int) + d → d + 21 ≤ k →
 redraftlaw05_does.l0 k l0 (l0.take o.f1.toNat ++ newC o i) (i : Int) o.f0.f0.f0 o.f0.f0.f1 o.f0.f1 o.f1 o.f2 o.f3 o.f4.f0 o.f4.f1 o.f5 = some (insC l0 o, true) := by
 intro d
 have hm : ∀ k, 20 ≤ k → redraftlaw05_width.f k o.f0.f0.f0 o.f0.f0.f1 o.f0.f1 o.f1 o.f2 o.f3 o.f4.f0 o.f4.f1 o.f5 = some (wid o) := by
  intro k hk
  induction k with
  | zero => omega
  | succ k ih =>
   by_cases c : k = 19
   · subst c; exact hw
   · exact redraftlaw05_width.mono _ _ _ _ _ _ _ _ _ k _ (ih (by omega))
 induction d with
 | zero =>
  intro k i h1 hk
  obtain ⟨k, rfl⟩ : ∃ m, k = m + 1 := ⟨k - 1, by omega⟩
  rw [redraftlaw05_does.l0, hm k (by omega)]
  simp only [Option.bind_some]
  rw [if_neg (by omega), if_pos hp.1, if_pos hp.2, if_pos (by unfold newC; simp; omega)]
  unfold insC
  rw [show (wid o).toNat = i by omega]
 | succ d ih =>
  intro k i h1 hk
  obtain ⟨k, rfl⟩ : ∃ m, k = m + 1 := ⟨k - 1, by omega⟩
  have w1 : wrap64 ((i : Int) + 1) = ((i + 1 : Nat) : Int) := by rw [wrap_id (by omega) (by omega)]; omega
  rw [redraftlaw05_does.l0, hm k (by omega)]
  simp only [Option.bind_some]
  rw [if_pos (by omega), if_pos (by unfold newC; simp; omega), w1]
  have e : l0.take o.f1.toNat ++ newC o i ++ [(⟨(⟨o.f0.f0.f0, o.f0.f0.f1⟩ : S35), (i : Int), 0⟩ : S48)] = l0.take o.f1.toNat ++ newC o (i + 1) := by
   unfold newC; rw [List.range_succ, List.map_append, List.append_assoc]; rfl
  rw [e]
  exact ih k (i + 1) (by omega) (by omega)
end
theorem nrm_len : ∀ {l : List S94} {x : Int}, Nrm x l → -1 ≤ x → 0 < l.length → (l.length : Int) ≤ lastHi l - x
 | [r], x, h, _, _ => by have := h.1; have := h.2.1; show (1 : Int) ≤ r.f1 - x; omega
 | r :: s :: t, x, h, hx, _ => by
  have := nrm_len (l := s :: t) h.2.2.2 (by have := h.1; have := h.2.1; omega) (by simp)
  have h1 := h.1; have h2 := h.2.1
  have e : lastHi (r :: s :: t) = lastHi (s :: t) := rfl
  rw [e]
  simp only [List.length_cons] at this ⊢
  omega
theorem does_is (l : List S48) (o : S41) (hL : l.length ≤ 1000) (h : Stands o l.length) : Ev (fun k => redraftlaw05_does.f k l o.f0.f0.f0 o.f0.f0.f1 o.f0.f1 o.f1 o.f2 o.f3 o.f4.f0 o.f4.f1 o.f5) (doesE l o, true) := by
 have hk := h.kind
 obtain ⟨K1, hK1⟩ : ∃ K1, ∀ b : Int, (b = 1 ∨ b = -1) → o.f0.f1 = 2 ∨ o.f0.f1 = 3 → ∀ k, K1 ≤ k → redraftlaw05_does.l1 k l l b 0 o.f0.f0.f0 o.f0.f0.f1 o.f0.f1 o.f1 o.f2 o.f3 o.f4.f0 o.f4.f1 o.f5 = some (hidC b o.f3 l, true) := by
  by_cases hb : o.f0.f1 = 2 ∨ o.f0.f1 = 3
  · obtain ⟨h1, h2, h3⟩ := h.cov hb
    have h4 := nrm_len h2 (by omega) h1
    have e0 : ∀ b, hidC b (o.f3.take 0) l = l := by
     intro b
     refine List.ext_getElem? fun j => ?_
     rw [hidC_at]
     cases l[j]? <;> simp [covB]
    obtain ⟨K1, q1⟩ := does_l1 l 1 o.f0.f0.f0 o.f0.f0.f1 o.f0.f1 o.f1 o.f2 o.f3 o.f4.f0 o.f4.f1 o.f5 h2 h3 (by omega) (by omega) o.f3.length 0 (by omega)
    obtain ⟨K2, q2⟩ := does_l1 l (-1) o.f0.f0.f0 o.f0.f0.f1 o.f0.f1 o.f1 o.f2 o.f3 o.f4.f0 o.f4.f1 o.f5 h2 h3 (by omega) (by omega) o.f3.length 0 (by omega)
    simp only [e0, decide_eq_true h1] at q1 q2
    refine ⟨K1 + K2, fun b hb _ k hk => ?_⟩
    rcases hb with rfl | rfl
    · exact q1 k (by omega)
    · exact q2 k (by omega)
  · exact ⟨0, fun _ _ h => absurd h hb⟩
 refine ⟨K1 + 40, fun K hK => ?_⟩
 obtain ⟨K, rfl⟩ : ∃ m, K = m + 2 := ⟨K - 2, by omega⟩
 simp only
 unfold redraftlaw05_does.f doesE
 rw [if_pos (by simp; omega)]
 simp only [Option.bind_some, List.nil_append]
 by_cases c1 : o.f0.f1 = 1
 · obtain ⟨p1, p2, _⟩ := h.ins c1
   have hw := h.wid
   have e0 : l.take o.f1.toNat ++ newC o 0 = l.take o.f1.toNat := by unfold newC; simp
   have := does_l0 l o (lwidth_is h) ⟨p1, p2⟩ h.wid (by omega) (wid o).toNat (K + 1) 0 (by omega) (by omega)
   rw [e0] at this
   rw [if_pos c1, if_pos c1, if_neg (by omega), decide_eq_false (by omega), redraftlaw05_does.j0, if_neg (by simp), if_pos p1, if_pos p2]
   simp only [Option.bind_some]
   rw [if_pos (by simp; omega)]
   exact this
 · rw [if_neg c1, if_neg c1]
   have go : ∀ b : Int, (b = 1 ∨ b = -1) → (o.f0.f1 = 2 ∨ o.f0.f1 = 3) → redraftlaw05_does.j3 (K + 1) l l b o.f0.f0.f0 o.f0.f0.f1 o.f0.f1 o.f1 o.f2 o.f3 o.f4.f0 o.f4.f1 o.f5 = some (hidC b o.f3 l, true) := by
    intro b hb h2
    rw [redraftlaw05_does.j3]
    exact hK1 b hb h2 K (by omega)
   by_cases c2 : o.f0.f1 = 2
   · rw [if_pos c2, if_pos c2, redraftlaw05_does.j2, if_pos (by simp [c2]), if_neg (by omega)]
     exact go 1 (.inl rfl) (.inl c2)
   · rw [if_neg c2, if_neg c2]
     by_cases c3 : o.f0.f1 = 3
     · rw [if_pos c3, redraftlaw05_does.j2, if_pos (by simp [c3]), if_pos c3]
       exact go (-1) (.inr rfl) (.inr c3)
     · rw [if_neg c3, redraftlaw05_does.j2, if_neg (by simp [c3])]
       have c4 : o.f0.f1 = 4 := by omega
       rw [c4]; rfl
def foldE : List S48 → List S41 → List S48
 | l, [] => l
 | l, o :: t => foldE (doesE l o) t
def StandsL : List S48 → List S41 → Prop
 | _, [] => True
 | l, o :: t => Stands o l.length ∧ l.length ≤ 1000 ∧ StandsL (doesE l o) t
theorem fold_l0 (run : List S41) (hr : run.length ≤ 1048576) : ∀ (d i : Nat) (l : List S48), run.length = i + d → StandsL l (run.drop i) → Ev (fun k => redraftlaw05_fold.l0 k l run (i : Int)) (foldE l (run.drop i), true) := by
 intro d
 induction d with
 | zero =>
  intro i l h1 h2
  refine ⟨1, fun k hk => ?_⟩
  obtain ⟨k, rfl⟩ : ∃ m, k = m + 1 := ⟨k - 1, by omega⟩
  simp only
  rw [redraftlaw05_fold.l0, if_neg (by omega), List.drop_eq_nil_of_le (by omega)]
  rfl
 | succ d ih =>
  intro i l h1 h2
  have hi : i < run.length := by omega
  obtain ⟨o, ho⟩ : ∃ o, o = run.getD i z41 := ⟨_, rfl⟩
  have hd : run.drop i = o :: run.drop (i + 1) := by
   rw [ho, List.drop_eq_getElem_cons hi, List.getD_eq_getElem?_getD, List.getElem?_eq_getElem hi]; rfl
  have e : rd_T41 run (i : Int) = o := by unfold rd_T41; rw [Int.toNat_natCast, ho]
  have w : wrap64 ((i : Int) + 1) = ((i + 1 : Nat) : Int) := by rw [wrap_id (by omega) (by omega)]; omega
  rw [hd] at h2 ⊢
  obtain ⟨h3, h4, h5⟩ := h2
  obtain ⟨K1, q1⟩ := does_is l o h4 h3
  obtain ⟨K2, q2⟩ := ih (i + 1) _ (by omega) h5
  simp only at q1 q2
  refine ⟨K1 + K2 + 1, fun k hk => ?_⟩
  obtain ⟨k, rfl⟩ : ∃ m, k = m + 1 := ⟨k - 1, by omega⟩
  simp only
  rw [redraftlaw05_fold.l0, if_pos (by omega), if_pos (by omega), e, q1 k (by omega)]
  simp only [Option.bind_some]
  rw [if_pos trivial, w]
  exact q2 k (by omega)
theorem fold_is (l : List S48) (run : List S41) (hr : run.length ≤ 1048576) (h : StandsL l run) : ∃ k, redraftlaw05_fold.f k l run = some (foldE l run, true) := by
 obtain ⟨K, q⟩ := fold_l0 run hr run.length 0 l (by omega) (by simpa using h)
 exact ⟨K, q K (Nat.le_refl _)⟩
def rowE (n : Nat) : List S48 := (List.range n).map fun (i : Nat) => (⟨⟨0, 0⟩, (i : Int), 0⟩ : S48)
theorem row_l0 (n : Nat) (hn : n ≤ 1048576) : ∀ (d i : Nat), n = i + d → redraftlaw05_row.l0 (d + 1) (n : Int) (rowE i) (i : Int) = some (rowE n) := by
 intro d
 induction d with
 | zero =>
  intro i h
  rw [redraftlaw05_row.l0, if_neg (by omega), show i = n by omega]
 | succ d ih =>
  intro i h
  have w1 : wrap64 ((i : Int) + 1) = ((i + 1 : Nat) : Int) := by rw [wrap_id (by omega) (by omega)]; omega
  rw [redraftlaw05_row.l0, if_pos (by omega), if_pos (by unfold rowE; simp; omega), w1]
  have e : rowE i ++ [(⟨(⟨0, 0⟩ : S35), (i : Int), 0⟩ : S48)] = rowE (i + 1) := by unfold rowE; rw [List.range_succ, List.map_append]; rfl
  rw [e]
  exact ih (i + 1) (by omega)
theorem row_is (n : Nat) (hn : n ≤ 1048576) : redraftlaw05_row.f (n + 1) (n : Int) = some (rowE n) := by
 unfold redraftlaw05_row.f
 simpa [rowE] using row_l0 n hn n 0 (by omega)
end Go.Proofs.YtloccjkcmlkifaaDoor
end

section
/- The operation of a spec: made. -/
namespace Go.Proofs.YtloccjkcmlkifaaDoor
open Go.RowKit Go.Proofs.YtloccjkcmlkifaaDoor.PAll Go.Proofs.YtloccjkcmlkifaaDoorW.PrintWords Go.Proofs.YtloccjkcmlkifaaDoorW.PrintLast

def GT (w : World) : Prop := 1 ≤ w.heap.size ∧ ∀ j, j < 5 → w.cell? ⟨0, j, none⟩ = some (.string (tx j))
theorem GT.below {w w' : World} (h : GT w) (hb : Below w.heap.size w w') : GT w' :=
 ⟨by have := hb.size; have := h.1; omega, fun j hj => (hb.cell (p := ⟨0, j, none⟩) (by show 0 < _; have := h.1; omega)).trans (h.2 j hj)⟩
structure MadeOK (o : S41) (c m : Int) (n : Nat) : Prop where
 id : o.f0.f0 = ⟨c, m⟩
 stands : Stands o n
 ins : o.f0.f1 = 1 → o.f3 = [] ∧ o.f4 = ⟨0, 0⟩ ∧ o.f5 = false
 cov : o.f0.f1 = 2 ∨ o.f0.f1 = 3 → o.f1 = 0 ∧ o.f2 = ⟨#[]⟩ ∧ o.f4 = ⟨0, 0⟩ ∧ o.f5 = false
 sta : o.f0.f1 = 4 → o.f1 = 0 ∧ o.f2 = ⟨#[]⟩ ∧ o.f3 = [] ∧ o.f4.f0 = 3 ∧ 1 ≤ o.f4.f1 ∧ o.f4.f1 ≤ 3
section
variable {P : Program} {ops : Array Oper} {rest : List Oper} {o : Oper} {a : Act} {Q : Exit → Act → World → Prop} {w0 W : World} {bs : List Bx} {F : World → Prop} {g : Nat} {t : TypeId} {cs : Array Value}
theorem ev_old (S : Aside0 (St w0 W bs F)) {p : Addr} {v : Value} (hc : w0.cell? p = some v) {N : Tmp} {ty : TypeId} {x : Operand}
 (h : wpList P ops Q rest (a.put (some N) v) W)
 (ho : o.op = .load ty x := by rfl) (hx : a.eval x = .pointer (some p) := by rfl) (hd : o.dst = some N := by rfl)
 (hw : Region.wanted o (yielded ops a.tmps) = true := by first | exact wanted_plain rfl | (refine wanted_on rfl ?_; first | (simp [yielded]; done) | rfl))
 (hrun : W.cell? p = some v → (execOp a.eval o).run P W = .ok (.value v) W := by intro hc_; first | (go_simp; done) | (go_simp; rfl)) : wpList P ops Q (o :: rest) a W :=
 have _ := ho; have _ := hx
 ev_run hw (hrun ((S.out.below.cell (World.block_lt_of_cell? w0 _ hc)).trans hc)) (by rw [hd]; exact h)
end
theorem lwid_any {o : S41} {n : Nat} (h : Stands o n) (v : Value) (w : World) (ho : OpC w v o) : Calls Tryd.prog 28 #[.agg (opA o v)] w fun e w' => e = .returned (.int .i64 (wid o)) ∧ Below w.heap.size w w' := by
 obtain ⟨A, c, rfl, h1, h2⟩ := ho
 exact redraftlaw05_width.calls 20 _ _ _ _ _ A c o.f3 _ _ _ (wid o) w h2 h1 (lwidth_is h)
end Go.Proofs.YtloccjkcmlkifaaDoor
end

section
/- What is made of right operations is right. -/
namespace Go.Proofs.YtloccjkcmlkifaaDoor
open Go.RowKit Go.Proofs.YtloccjkcmlkifaaDoor.PAll Go.Proofs.YtloccjkcmlkifaaDoorW.PrintWords

theorem own_mk_ins {o : S41} (k : o.f0.f1 = 1) (hb : ¬ badID o) (he : extraB o = false) (h1 : (chk o.f2).2.2 = 0) (h2 : 1 ≤ (chk o.f2).1 ∧ (chk o.f2).1 ≤ 256) (h3 : 0 ≤ o.f1 ∧ o.f1 + (chk o.f2).1 ≤ 1048576) : ownE o = 0 := by
 have ht : totOf o = o.f1 := by unfold totOf; rw [if_pos ⟨k, by omega, by omega⟩]
 unfold ownE checkE
 rw [ht, if_neg (show ¬ (o.f1 < 0 ∨ 1048576 < o.f1) by omega), if_neg (show ¬ (o.f0.f1 < 1 ∨ 4 < o.f0.f1) by omega), if_neg hb, if_neg (show ¬ extraB o = true by rw [he]; simp), if_pos k]
 unfold insE
 rw [if_pos h1, if_neg (show ¬ (chk o.f2).1 = 0 by omega), if_neg (show ¬ 256 < (chk o.f2).1 by omega), if_neg (show ¬ (o.f1 < 0 ∨ o.f1 < o.f1) by omega), if_neg (show ¬ 1048576 < o.f1 + (chk o.f2).1 by omega)]
theorem own_mk_cov {o : S41} (k : o.f0.f1 = 2 ∨ o.f0.f1 = 3) (hb : ¬ badID o) (he : extraB o = false) (h0 : 0 < o.f3.length) (h1 : (rngE o.f3).2 = 0) (h2 : lastHi o.f3 ≤ 1048576) : ownE o = 0 := by
 have ht : totOf o = 1048576 := by unfold totOf; rw [if_neg (show ¬ (o.f0.f1 = 1 ∧ 0 ≤ o.f1 ∧ o.f1 ≤ 1048576) by omega)]
 unfold ownE checkE
 rw [ht, if_neg (by omega), if_neg (show ¬ (o.f0.f1 < 1 ∨ 4 < o.f0.f1) by omega), if_neg hb, if_neg (show ¬ extraB o = true by rw [he]; simp), if_neg (show ¬ o.f0.f1 = 1 by omega), if_neg (show ¬ o.f0.f1 = 4 by omega)]
 unfold rgsE
 rw [if_neg (by omega), if_pos h1, if_neg (by omega)]
end Go.Proofs.YtloccjkcmlkifaaDoor
end

section
/- Runs: their own errors, on both sides; an element that is read. -/
namespace Go.Proofs.YtloccjkcmlkifaaDoor
open Go.RowKit Go.Proofs.YtloccjkcmlkifaaDoor.PAll Go.Proofs.YtloccjkcmlkifaaDoorW.PrintWords

def ownsE : List S41 → Int
 | [] => 0
 | o :: t => if ownE o = 0 then ownsE t else ownE o
theorem owns_good : ∀ {l : List S41}, ownsE l = 0 → (∀ o ∈ l, fineOp o) → ∀ o ∈ l, Good o
 | o :: t, h, hf, x, hx => by
  unfold ownsE at h
  by_cases c : ownE o = 0
  · rw [if_pos c] at h
    rcases List.mem_cons.1 hx with rfl | hx
    · exact ⟨c, hf _ (by simp)⟩
    · exact owns_good h (fun y hy => hf y (by simp [hy])) x hx
  · rw [if_neg c] at h; exact absurd h c
theorem owns_loop (l : List S41) (hf : ∀ o ∈ l, fineOp o) (hl : l.length ≤ 1048576) : ∀ (d i : Nat), l.length = i + d → Ev (fun k => xform_owns.l0 k l (l.length : Int) (i : Int)) (ownsE (l.drop i)) := by
 intro d
 induction d with
 | zero =>
  intro i h
  refine ⟨1, fun k hk => ?_⟩
  obtain ⟨k, rfl⟩ : ∃ m, k = m + 1 := ⟨k - 1, by omega⟩
  simp only
  rw [xform_owns.l0, if_neg (by omega), List.drop_eq_nil_of_le (by omega)]
  rfl
 | succ d ih =>
  intro i h
  have hi : i < l.length := by omega
  obtain ⟨K1, h1⟩ := ih (i + 1) (by omega)
  obtain ⟨o, ho⟩ : ∃ o, o = l.getD i z41 := ⟨_, rfl⟩
  have hd : l.drop i = o :: l.drop (i + 1) := by
   rw [ho, List.drop_eq_getElem_cons hi, List.getD_eq_getElem?_getD, List.getElem?_eq_getElem hi]; rfl
  have hm : o ∈ l := by
   rw [ho, List.getD_eq_getElem?_getD, List.getElem?_eq_getElem hi]; exact List.getElem_mem hi
  have hfo := hf o hm
  obtain ⟨K2, h2⟩ := own_is o hfo.1 (by have := hfo.2; omega)
  dsimp only at h1 h2
  have e : rd_T41 l (i : Int) = o := by unfold rd_T41; rw [Int.toNat_natCast, ho]
  have w : wrap64 ((i : Int) + 1) = ((i + 1 : Nat) : Int) := by rw [wrap_id (by omega) (by omega)]; omega
  have q1 : (i : Int) < (l.length : Int) := by omega
  have q2 : (0 : Int) ≤ (i : Int) := by omega
  refine ⟨K1 + K2 + 1, fun k hk => ?_⟩
  obtain ⟨k, rfl⟩ : ∃ m, k = m + 1 := ⟨k - 1, by omega⟩
  simp only
  rw [xform_owns.l0, if_pos q1, if_pos q2, if_pos q1, e, h2 k (by omega)]
  simp only [Option.bind_some]
  rw [hd]
  unfold ownsE
  by_cases c : ownE o = 0
  · rw [if_pos c, if_pos c, w, h1 k (by omega)]
  · rw [if_neg c, if_neg c]
def RunC (w : World) (v : Value) (l : List S41) : Prop := ∃ A c, v = .slice A l.length c ∧ l.length ≤ c ∧ k41.C w A l.length l
theorem RunC.below {w w' : World} {v : Value} {l : List S41} (h : RunC w v l) (hb : Below w.heap.size w w') : RunC w' v l := by
 obtain ⟨A, c, e, h1, h2⟩ := h
 exact ⟨A, c, e, h1, Kd.C_below h2 hb⟩
theorem owns_any (l : List S41) (v : Value) (w : World) (hG : GW w) (h : RunC w v l) (hf : ∀ o ∈ l, fineOp o) (hl : l.length ≤ 1048576) : Calls Tryd.prog 55 #[v] w fun e w' => e = .returned (.int .i64 (ownsE l)) ∧ Below w.heap.size w w' := by
 obtain ⟨A, c, rfl, h1, h2⟩ := h
 obtain ⟨K, hK⟩ := owns_loop l hf hl l.length 0 (by omega)
 exact xform_owns.calls K A c l _ w h2 h1 hG (by unfold xform_owns.f; exact hK K (Nat.le_refl _))
theorem elem_C {w : World} {A : Option Addr} {l : List S41} (h : k41.C w A l.length l) (i : Nat) (hi : i < l.length) :
 ∃ ad A5 c5, A = some ad ∧ (∀ W, Below w.heap.size w W → atL W (ad.add (i * 9)) 0 (opA (l.getD i z41) (.slice A5 (l.getD i z41).f3.length c5)).toList) ∧ OpC w (.slice A5 (l.getD i z41).f3.length c5) (l.getD i z41) := by
 obtain ⟨ad, c, e, _, hK, hc⟩ := Kd.C_get h z41 (i : Int) (by omega) (by omega)
 rw [Int.toNat_natCast] at hK hc
 obtain ⟨A5, c5, rfl, l5, g5⟩ := k41_open hK
 refine ⟨ad, A5, c5, e, fun W hb => atL_mk fun j v hj => ?_, opC_mk l5 g5⟩
 have := hc j v hj
 have h2 : W.cell? (ad.add (i * 9 + j)) = some v := pw_cell_below hb this
 have h3 : (ad.add (i * 9)).add (0 + j) = ad.add (i * 9 + j) := by
  by_cases hj0 : j = 0
  · subst hj0
    rfl
  · rw [add_field ad (i * 9) j (by omega)]
    unfold Addr.add
    rw [if_neg (by omega), Nat.zero_add]
 rw [h3]; exact h2
end Go.Proofs.YtloccjkcmlkifaaDoor
end

section
/- xform.Over: an operation carried over a run. -/
namespace Go.Proofs.YtloccjkcmlkifaaDoor
open Go.RowKit Go.Proofs.YtloccjkcmlkifaaDoor.PAll Go.Proofs.YtloccjkcmlkifaaDoorW.PrintWords

section
variable {P : Program} {ops : Array Oper} {rest : List Oper} {o : Oper} {a : Act} {Q : Exit → Act → World → Prop} {W : World}
theorem ev_ext (cs : Array Value) {N : Tmp} {ty : TypeId} {x : Operand} {d : TypeDesc} {ad : Addr} (hc : atL W ad 0 cs.toList)
 (h : wpList P ops Q rest (a.put (some N) (.agg cs)) W)
 (ho : o.op = .load ty x := by rfl) (hx : a.eval x = .pointer (some ad) := by rfl) (hd : o.dst = some N := by rfl)
 (hw : Region.wanted o (yielded ops a.tmps) = true := by first | exact wanted_plain rfl | (refine wanted_on rfl ?_; simp [yielded])) (hu : P.underlying ty = some d := by first | exact Tryd.underlying41 | exact Tryd.underlying100) (hdd : (match d with | .struct _ | .array _ _ => true | _ => false) = true := by rfl) (hi : (P.info? ty).map (·.size) = some cs.size := by kernel_rfl) : wpList P ops Q (o :: rest) a W := by
 have hr := run_load_wide (P := P) W ad ty cs.toList d hc hu hdd (by simpa using hi)
 refine ev_run (v := .agg cs) hw ?_ (by rw [hd]; exact h)
 unfold execOp
 simp only [ho, hx, Instr.loadAt, Instr.sureAddr, Sem.run_bind, Sem.run_pure, Result.andThen_ok, hr]
end

def overF (e : Bool) (s : S41 × Int) (x : S41) : S41 × Int := if s.2 = 0 then incE s.1 x e else s
structure OverAt (err : Int) (o : S41) (e : Bool) (run : List S41) (w : World) (g6 g3 : Nat) (k : Nat) (s : S41 × Int) (A : Option Addr) (c : Nat) (wr : World) : Prop where
 eq : s = (run.take k).foldl (overF e) (o, err)
 st : St w wr [(g6, 41, zA), (g3, 41, opA s.1 (.slice A s.1.f3.length c))] (fun W => True ∧ OpR W w.heap.size (.slice A s.1.f3.length c) s.1)
end Go.Proofs.YtloccjkcmlkifaaDoor
end

section
/- The document's Over answers as the program's. -/
namespace Go.Proofs.YtloccjkcmlkifaaDoor
open Go.RowKit Go.Proofs.YtloccjkcmlkifaaDoor.PAll Go.Proofs.YtloccjkcmlkifaaDoorW.PrintWords Go.Proofs.YtloccjkcmlkifaaDoorW.PrintLast

section
variable {P : Program} {ops : Array Oper} {Q : Exit → Act → World → Prop} {md : Region.Mode} {S : World → Prop} {ds : List Nat} {fuel : Nat} {l : Array Bool} {a a' : Act} {w w0 : World} {oi : Oper} {N : Tmp} {rest : List Oper} {o : Oper} {W : World} {bs : List Bx} {F : World → Prop}
theorem le_ (i : Nat) (cs : Array Value) {ty : TypeId} {x : Operand} {d : TypeDesc} {ad : Addr} (hS : S w) (hcc : ∀ w', S w' → atL w' ad 0 cs.toList)
 (h : wpAnyLast P md ops Q S ds fuel (l.setIfInBounds i true) a' w)
 (hi : ops[i]? = some oi := by rfl) (hN : oi.dst = some N := by rfl) (hc : takeB md ops ds l (l.setIfInBounds i true) i = true := by kernel_rfl)
 (ho : oi.op = .load ty x := by rfl) (hx : a.eval x = .pointer (some ad) := by rfl)
 (hw : Region.wanted oi (yielded ops a.tmps) = true := by first | exact wanted_plain rfl | (refine wanted_on rfl ?_; simp [yielded]))
 (hu : P.underlying ty = some d := by first | exact Tryd.underlying41 | exact Tryd.underlying100) (hdd : (match d with | .struct _ | .array _ _ => true | _ => false) = true := by rfl) (hs : (P.info? ty).map (·.size) = some cs.size := by kernel_rfl)
 (ha : a.put (some N) (.agg cs) = a' := by (simp only [Act.put, List.setIfInBounds_toArray, List.set_cons_zero, List.set_cons_succ]; rfl))
 (hQ : ∀ c a w, Q (.panic c) (a.put oi.dst (.agg cs)) w → Q (.panic c) a w := by exact fun _ _ _ h => h) : wpAnyLast P md ops Q S ds (fuel + 1) l a w :=
 take_ (l.setIfInBounds i true) hi hN hc hQ (.inl ⟨hw, fun w' hS' => by
  have hr := run_load_wide (P := P) w' ad ty cs.toList d (hcc w' hS') hu hdd (by simpa using hs)
  unfold execOp
  simp only [ho, hx, Instr.loadAt, Instr.sureAddr, Sem.run_bind, Sem.run_pure, Result.andThen_ok, hr]⟩) hS ha h
theorem ev_lit (S : Aside0 (St w0 W bs F)) (cs : Array Value) (n : Nat) {ty : TypeId} {xs : Array (Nat × Operand)}
 (h : ∀ g w', Aside0 (St w0 w' ((g, 41, cs) :: bs) F) → wpList P ops Q rest (a.put (some N) (.slice (some ⟨g, 0, none⟩) n n)) w')
 (ho : o.op = .buildSlice ty n xs := by rfl) (hd : o.dst = some N := by rfl) (hw : Region.wanted o (yielded ops a.tmps) = true := by exact wanted_plain rfl)
 (hrun : (execOp a.eval o).run P W = .ok (.value (.slice (some ⟨W.heap.size, 0, none⟩) n n)) (W.alloc (.cells cs 41 (0, 0))) := by first | (go_simp; done) | (go_simp; rfl)) : wpList P ops Q (o :: rest) a W :=
 have _ := ho
 ev_run hw hrun (by rw [hd]; exact h _ _ ⟨S.out.push (below_alloc (Below.refl _ _) _) (blk_new W _) rfl⟩)
end
theorem opA_K {w : World} {v : Value} {o : S41} (h : OpC w v o) : k41.K w o (opA o v).toList := by
 obtain ⟨A, c, rfl, h1, h2⟩ := h
 exact k41_mk w o h1 h2
theorem runC_box2 {w : World} {g : Nat} {v u : Value} {o p : S41} (h : w.heap[g]? = some (.cells (opA o v ++ opA p u) 41 (0, 0))) (ho : OpC w v o) (hp : OpC w u p) : RunC w (.slice (some ⟨g, 0, none⟩) 2 2) [o, p] := by
 refine ⟨some ⟨g, 0, none⟩, 2, rfl, Nat.le_refl _, rfl, by simp, fun _ => ⟨_, rfl, fun j q hj => ?_⟩⟩
 match j, hj with
 | 0, hj =>
  obtain rfl := Option.some.inj hj
  refine ⟨_, rfl, opA_K ho, fun i x hx => ?_⟩
  have hi : i < 9 := (List.getElem?_eq_some_iff.1 hx).1
  rw [add_plain, blk_cell h, ← hx, Nat.zero_mul, Nat.zero_add, Array.getElem?_append_left (by simpa using hi)]
  simp
 | 1, hj =>
  obtain rfl := Option.some.inj hj
  refine ⟨_, rfl, opA_K hp, fun i x hx => ?_⟩
  have e : 1 * k41.sz = 9 := rfl
  rw [add_plain, blk_cell h, ← hx, e, Array.getElem?_append_right (by simp)]
  simp
 | j + 2, hj => simp at hj
theorem gate_lit {P : Program} {ops : Array Oper} {rest : List Oper} {o : Oper} {a : Act} {Q : Exit → Act → World → Prop} {W : World} {t : TypeId} {n : Nat} {xs : Array (Nat × Operand)} (_ho : o.op = .buildSlice t n xs) (h : wpList P ops Q (o :: rest) a W) : wpList P ops Q (o :: rest) a W := h
end Go.Proofs.YtloccjkcmlkifaaDoor
end

section
/- Two operations that are one are told equal: redraftref04.Equal, and what is made of it. -/
namespace Go.Proofs.YtloccjkcmlkifaaDoor
open Go.RowKit Go.Proofs.YtloccjkcmlkifaaDoor.PAll Go.Proofs.YtloccjkcmlkifaaDoorW.PrintWords Go.Proofs.YtloccjkcmlkifaaDoorW.PrintLast

def Yes (w : World) : Ending → World → Prop := fun e w' => e = .returned (.bool true) ∧ Below w.heap.size w w'
theorem num_any (e : Int) (w : World) : Calls Tryd.prog 23 #[.int .i64 e] w fun e' w' => e' = .returned (.int .i64 e) ∧ Below w.heap.size w w' := by
 go_enter Tryd.func23, Tryd.ntmps23
 go_wp2
 go_ret
 exact ⟨rfl, Below.refl _ _⟩
end Go.Proofs.YtloccjkcmlkifaaDoor
end

section
/- A script's step as a value; what the laws ask of two answers that are one. -/
namespace Go.Proofs.YtloccjkcmlkifaaDoor
open Go.RowKit Go.Proofs.YtloccjkcmlkifaaDoor.PAll Go.Proofs.YtloccjkcmlkifaaDoorW.PrintWords Go.Proofs.YtloccjkcmlkifaaDoorW.PrintLast

structure StepC (w : World) (va vb vr vo : Value) (s : S100) : Prop where
 a : OpC w va s.f1
 b : OpC w vb s.f2
 r : RunC w vr s.f3
 o : RunC w vo s.f4
theorem StepC.below {w w' : World} {va vb vr vo : Value} {s : S100} (h : StepC w va vb vr vo s) (hb : Below w.heap.size w w') : StepC w' va vb vr vo s := ⟨h.a.below hb, h.b.below hb, h.r.below hb, h.o.below hb⟩
section
variable {P : Program} {ops : Array Oper} {rest : List Oper} {o : Oper} {a a' : Act} {Q : Exit → Act → World → Prop} {w0 W w : World} {bs : List Bx} {F : World → Prop} {g : Nat} {t : TypeId} {cs : Array Value}
variable {md : Region.Mode} {S : World → Prop} {ds : List Nat} {fuel : Nat} {l : Array Bool} {oi : Oper} {N : Tmp}
end
def OwnRun (w : World) (base : Nat) (v : Value) (l : List S41) : Prop := Kd.S k41 41 w base (fun _ => True) v l
theorem OwnRun.C {w : World} {base : Nat} {v : Value} {l : List S41} (h : OwnRun w base v l) : RunC w v l := Kd.S_reads h
end Go.Proofs.YtloccjkcmlkifaaDoor
end

section
/- The operations of specs, each made behind those ahead of it: run. -/
namespace Go.Proofs.YtloccjkcmlkifaaDoor
open Go.RowKit Go.Proofs.YtloccjkcmlkifaaDoor.PAll Go.Proofs.YtloccjkcmlkifaaDoorW.PrintWords Go.Proofs.YtloccjkcmlkifaaDoorW.PrintLast

def SpecsC (w : World) (v : Value) (n : Nat) : Prop := ∃ A c, v = .slice A n c ∧ n ≤ c ∧ ∀ i, i < n → ∃ ad kd at_ m P cp, ∃ (l : List Int) (on : Bool), A = some ad ∧
 (∀ W, Below w.heap.size w W → atL W (ad.add (i * 5)) 0 [.int .i64 kd, .int .i64 at_, .int .i64 m, .slice P l.length cp, .bool on]) ∧ l.length ≤ cp ∧ Kd.C (Kd.int .i64) w P l.length l
inductive MadeRun (ci : Int) (n0 : Nat) : List S41 → Nat → Prop
 | nil : MadeRun ci n0 [] n0
 | snoc {l : List S41} {n : Nat} {o : S41} : MadeRun ci n0 l n → MadeOK o ci ((l.length : Int) + 1) n → MadeRun ci n0 (l ++ [o]) (n + (wid o).toNat)
theorem MadeRun.bound {ci : Int} {n0 : Nat} {l : List S41} {n : Nat} (h : MadeRun ci n0 l n) : n0 ≤ n ∧ n ≤ n0 + 5 * l.length := by
 induction h with
 | nil => simp
 | snoc _ ho ih =>
  have := ho.stands.wid
  rw [List.length_append, List.length_singleton]
  omega
end Go.Proofs.YtloccjkcmlkifaaDoor
end

section
/- What the outright laws are handed: two tables that lie where they lie; a context, lists of specs. -/
namespace Go.Proofs.YtloccjkcmlkifaaDoor
open Go.ChangeShapes Go.WideShapes Go.ChangeAt Go.RowKit Go.Proofs.YtloccjkcmlkifaaDoorW.PrintWords Go.Proofs.YtloccjkcmlkifaaDoor.PAll

theorem bars_of_vars {W : World} {rest : List (String × DataW Unit)} {ps : List MemPlace} (h : DataW.LaidVars Tryd.prog W (("redraft/utext.bars", Rows.laid_redraft_utext_bars) :: rest) ps) : GW W := by
 obtain ⟨g, t, cs, fuel, p, q, hg, ht, hvar, hd, _, _⟩ := h
 obtain rfl : 1 = g := Option.some.inj ((show Tryd.prog.globalNamed "redraft/utext.bars" = some 1 by kernel_rfl).symm.trans hg)
 obtain rfl : 144 = t := Option.some.inj ((show (Tryd.prog.globals[1]?).map (·.type) = some 144 by kernel_rfl).symm.trans ht)
 have hs := bars_shape (zs := barsL) Tryd.underlying144 Tryd.underlying143 Tryd.underlying21 Tryd.underlying21 rfl rfl (by kernel_rfl) (by kernel_rfl) (by kernel_rfl) rfl hd
 have hc : ∀ o, W.cell? ⟨1, o, none⟩ = cs[o]? := fun o => World.var?_cell hg hvar o
 have hcell : ∀ j, j < 5 → W.cell? ⟨1, j * 2, none⟩ = some (.int .i32 (barsL.getD j (0, 0)).1) ∧ W.cell? ⟨1, j * 2 + 1, none⟩ = some (.int .i32 (barsL.getD j (0, 0)).2) := fun j hj => by
  obtain ⟨e0, e1⟩ := hs j hj
  rw [hc, hc, ← Array.getElem?_toList, ← Array.getElem?_toList]
  exact ⟨e0, e1⟩
 exact ⟨World.block_lt_of_cell? W ⟨1, 0, none⟩ (hcell 0 (by decide)).1, hcell⟩
theorem texts_shape {P : Program} {w : World} {fuel : Nat} {t e : TypeId} {n : Nat} {cs : List Value} {zs : List (List UInt8)} {p : List MemPlace}
 (ht : P.underlying t = some (.array n e)) (he : P.underlying e = some .string) (ce : P.cellsOf e = 1) (hn : n = zs.length)
 (h : DataW.trod (fun _ => ()) P w 0 (fun _ => true) false fuel t cs = some (.agg (zs.map fun z => .lit (.string z)), p)) :
 ∀ j, j < n → ∃ s : ByteArray, cs[j]? = some (.string s) ∧ s.data.toList = zs.getD j [] := by
 obtain ⟨xs, m, _, hx, hl, hlen, hf⟩ := DataW.trod_array ht h
 simp only [Prod.mk.injEq, DataW.agg.injEq] at hx
 intro j hj
 have hj2 : j < xs.length := by omega
 have h1 := hf j hj
 rw [List.getElem?_eq_getElem hj2, ce, Nat.mul_one] at h1
 obtain ⟨s, hs, hy, _⟩ := DataW.trod_string he h1
 have hz : (xs.map (·.1))[j]? = (zs.map fun z => (DataW.lit (.string z) : DataW Unit))[j]? := by rw [hx.1]
 rw [List.getElem?_map, List.getElem?_map, List.getElem?_eq_getElem hj2, List.getElem?_eq_getElem (by omega : j < zs.length)] at hz
 simp only [Option.map_some, Option.some.injEq] at hz
 rw [hy] at hz
 simp only [DataW.lit.injEq, Lit.string.injEq] at hz
 refine ⟨s, ?_, by rw [List.getD_eq_getElem?_getD, List.getElem?_eq_getElem (by omega : j < zs.length)]; exact hz⟩
 have : ((cs.drop j).take 1)[0]? = some (.string s) := by rw [hs]; rfl
 rw [List.getElem?_take_of_lt (by omega), List.getElem?_drop] at this
 simpa using this
theorem bytes_eq {s t : ByteArray} (h : s.data.toList = t.data.toList) : s = t := by
 cases s; cases t
 simp only [ByteArray.mk.injEq]
 exact Array.toList_inj.1 h
theorem tabs_of {W : World} (h : laidMetH Tryd.prog [("redraft/utext.bars", Rows.laid_redraft_utext_bars), ("redraft/redraftlaw05.texts", Rows.laid_redraft_redraftlaw05_texts)] W) : GW W ∧ GT W := by
 have h' : laidMet Tryd.prog [("redraft/utext.bars", Rows.laid_redraft_utext_bars), ("redraft/redraftlaw05.texts", Rows.laid_redraft_redraftlaw05_texts)] W := h
 obtain ⟨ps, hv, _⟩ := h'
 refine ⟨bars_of_vars hv, ?_⟩
 obtain ⟨_, _, _, _, _, q, _, _, _, _, h2, _⟩ := hv
 obtain ⟨g, t, cs, fuel, p, q2, hg, ht, hvar, hd, _, _⟩ := h2
 obtain rfl : 0 = g := Option.some.inj ((show Tryd.prog.globalNamed "redraft/redraftlaw05.texts" = some 0 by kernel_rfl).symm.trans hg)
 obtain rfl : 50 = t := Option.some.inj ((show (Tryd.prog.globals[0]?).map (·.type) = some 50 by kernel_rfl).symm.trans ht)
 have hs := texts_shape (zs := txL.map (·.data.toList)) Tryd.underlying50 Tryd.underlying9 (by kernel_rfl) rfl hd
 have hcell : ∀ j, j < 5 → W.cell? ⟨0, j, none⟩ = some (.string (tx j)) := fun j hj => by
  obtain ⟨s, e0, e1⟩ := hs j hj
  rw [World.var?_cell hg hvar j, ← Array.getElem?_toList, e0]
  congr 2
  refine bytes_eq (e1.trans ?_)
  match j, hj with
  | 0, _ => rfl
  | 1, _ => rfl
  | 2, _ => rfl
  | 3, _ => rfl
  | 4, _ => rfl
 exact ⟨World.block_lt_of_cell? W ⟨0, 0, none⟩ (hcell 0 (by decide)), hcell⟩
noncomputable def tabWorld (os : Os) : World :=
 let w0 := laidWorld os
 { w0 with heap := w0.heap.modify 0 fun
  | .cells _ t frozen => .cells #[.string ⟨#[97]⟩, .string ⟨#[97, 195, 169]⟩, .string ⟨#[226, 130, 172, 97, 195, 169]⟩, .string ⟨#[122, 195, 169, 240, 159, 152, 128, 97]⟩, .string ⟨#[97, 98, 99, 100, 101]⟩] t frozen
  | o => o }
section
variable {H : Type} {enc : TypeId × Value → H} {w : World} {cs : List Value}
theorem red_row {P : Program} {t : TypeId} {α : Type} {e : TypeId} (d : Kd α) (z : α) (ht : P.underlying t = some (.slice e)) (hc : P.cellsOf e = d.sz) (hpos : 0 < d.sz) (hby : 0 < P.bytesOf e) (he : ∀ cs', Red enc P w e cs' → ∃ x, d.K w x cs') (h : Red enc P w t cs) :
 ∃ (A : Option Addr) (c : Nat) (l : List α), cs = [.slice A l.length c] ∧ l.length ≤ c ∧ d.C w A l.length l := by
 obtain ⟨A, n, c, rfl, h1, h2, h3, h4, h5⟩ := red_slice ht (by omega) h
 rw [hc] at h5
 have hcb : c ≤ 140737488351232 := Nat.le_trans (Nat.le_mul_of_pos_right c hby) h2
 have hf2 : ∀ i, ∃ x : α, i < n → (∃ b o, A = some ⟨b, o, none⟩ ∧ ∃ cs', cs'.length = d.sz ∧ (∀ j, j < d.sz → w.cell? ⟨b, o + (i * d.sz + j), none⟩ = cs'[j]?) ∧ d.K w x cs') := by
  intro i
  by_cases hi : i < n
  · obtain ⟨b, o, hA, hb⟩ := h3 (by omega)
    obtain ⟨cs', hl, hcell, hr⟩ := h5 b o hA i (by omega)
    obtain ⟨x, hx⟩ := he cs' hr
    exact ⟨x, fun _ => ⟨b, o, hA, cs', hl, hcell, hx⟩⟩
  · exact ⟨z, fun h => absurd h hi⟩
 obtain ⟨f, hf3⟩ := Classical.axiomOfChoice hf2
 refine ⟨A, c, (List.range n).map f, by simp, by simpa using h1, ?_⟩
 refine ⟨by simp, by simp; omega, fun hn => ?_⟩
 have hn' : 0 < n := by simpa using hn
 obtain ⟨b, o, hA, hb⟩ := h3 (by omega)
 refine ⟨⟨b, o, none⟩, hA, fun j p hp => ?_⟩
 obtain ⟨hj, rfl⟩ := List.getElem?_eq_some_iff.1 hp
 have hj' : j < n := by simpa using hj
 obtain ⟨b', o', hA', cs', hl, hcell, hK⟩ := hf3 j hj'
 rw [hA] at hA'
 cases hA'
 refine ⟨cs', hl, by simpa using hK, fun i u hu => ?_⟩
 have hi : i < d.sz := by rw [← hl]; exact (List.getElem?_eq_some_iff.1 hu).1
 have e : (⟨b, o, none⟩ : Addr).add (j * d.sz + i) = ⟨b, o + (j * d.sz + i), none⟩ := by
  unfold Addr.add
  split
  · rename_i h0; rw [h0, Nat.add_zero]
  · rfl
 rw [e, hcell i hi, hu]
theorem d3 : Tryd.prog.cellsOf 3 = 1 := by kernel_rfl
theorem d4 : Tryd.prog.cellsOf 4 = 1 := by kernel_rfl
theorem d22 : Tryd.prog.cellsOf 22 = 1 := by kernel_rfl
theorem d23 : Tryd.prog.cellsOf 23 = 1 := by kernel_rfl
theorem d25 : Tryd.prog.cellsOf 25 = 7 := by kernel_rfl
theorem d57 : Tryd.prog.cellsOf 57 = 5 := by kernel_rfl
theorem red_ints (h : Red enc Tryd.prog w 23 cs) : ∃ (A : Option Addr) (c : Nat) (l : List Int), cs = [.slice A l.length c] ∧ l.length ≤ c ∧ Kd.C (Kd.int .i64) w A l.length l :=
 red_row (Kd.int .i64) 0 Tryd.underlying23 d3 (by decide) (of_decide_eq_true (by kernel_rfl)) (fun cs' h => by
  obtain ⟨x, rfl, _⟩ := red_int Tryd.underlying3 h
  exact ⟨x, rfl⟩) h
set_option maxRecDepth 100000 in
theorem red_spec (h : Red enc Tryd.prog w 57 cs) : ∃ kd at_ m P cp, ∃ (l : List Int) (on : Bool), cs = [.int .i64 kd, .int .i64 at_, .int .i64 m, .slice P l.length cp, .bool on] ∧ l.length ≤ cp ∧ Kd.C (Kd.int .i64) w P l.length l := by
 obtain ⟨hl, hr⟩ := red_struct Tryd.underlying57 h
 rw [d57] at hl
 match cs, hl with
 | [x0, x1, x2, x3, x4], _ =>
  obtain ⟨n0, e0, _⟩ := red_int Tryd.underlying3 (hr 0 _ rfl)
  obtain ⟨n1, e1, _⟩ := red_int Tryd.underlying3 (hr 1 _ rfl)
  obtain ⟨n2, e2, _⟩ := red_int Tryd.underlying3 (hr 2 _ rfl)
  obtain ⟨A, c, l, e3, h1, h2⟩ := red_ints (hr 3 _ rfl)
  obtain ⟨b, e4⟩ := red_bool Tryd.underlying4 (hr 4 _ rfl)
  simp [d3, d23, d4] at e0 e1 e2 e3 e4
  subst e0 e1 e2 e3 e4
  exact ⟨n0, n1, n2, A, c, l, b, rfl, h1, h2⟩
theorem red_specs (h : Red enc Tryd.prog w 22 cs) : ∃ A n c, cs = [.slice A n c] ∧ SpecsC w (.slice A n c) n ∧ n ≤ 281474976710656 := by
 obtain ⟨A, n, c, rfl, h1, h2, h3, h4, h5⟩ := red_slice Tryd.underlying22 (by rw [d57]; decide) h
 rw [d57] at h5
 have hcb : c ≤ 140737488351232 := Nat.le_trans (Nat.le_mul_of_pos_right c (of_decide_eq_true (by kernel_rfl))) h2
 refine ⟨A, n, c, rfl, ⟨A, c, rfl, h1, fun i hi => ?_⟩, by omega⟩
 obtain ⟨b, o, hA, hb⟩ := h3 (by omega)
 obtain ⟨cs', hl, hcell, hr⟩ := h5 b o hA i (by omega)
 obtain ⟨kd, at_, m, P, cp, l, on, rfl, h6, h7⟩ := red_spec hr
 refine ⟨⟨b, o, none⟩, kd, at_, m, P, cp, l, on, hA, fun W hW => atL_mk fun j v hj => ?_, h6, h7⟩
 have hj5 : j < 5 := (List.getElem?_eq_some_iff.1 hj).1
 have hc := hcell j hj5
 rw [hj] at hc
 have e : ((⟨b, o, none⟩ : Addr).add (i * 5)).add (0 + j) = ⟨b, o + (i * 5 + j), none⟩ := by
  unfold Addr.add
  by_cases hi0 : i * 5 = 0 <;> by_cases hj0 : j = 0 <;> simp [hi0, hj0, Nat.add_assoc]
  all_goals (try (have : i = 0 := by omega); try subst this; simp)
 rw [e]
 exact pw_cell_below hW hc
set_option maxRecDepth 100000 in
theorem red_two (h : Red enc Tryd.prog w 25 cs) : ∃ len A n c B m d i j, ∃ (e : Bool) (v : Value), cs = [.int .i64 len, .slice A n c, .slice B m d, .int .i64 i, .int .i64 j, .bool e, v] ∧ SpecsC w (.slice A n c) n ∧ n ≤ 281474976710656 ∧ SpecsC w (.slice B m d) m ∧ m ≤ 281474976710656 ∧ (Lit.int .i64 i).wf = true ∧ (Lit.int .i64 j).wf = true := by
 obtain ⟨hl, hr⟩ := red_struct Tryd.underlying25 h
 rw [d25] at hl
 match cs, hl with
 | [x0, x1, x2, x3, x4, x5, x6], _ =>
  obtain ⟨n0, e0, _⟩ := red_int Tryd.underlying3 (hr 0 _ rfl)
  obtain ⟨A, n, c, e1, h1, h2⟩ := red_specs (hr 1 _ rfl)
  obtain ⟨B, m, d, e2, h3, h4⟩ := red_specs (hr 2 _ rfl)
  obtain ⟨n3, e3, w3⟩ := red_int Tryd.underlying3 (hr 3 _ rfl)
  obtain ⟨n4, e4, w4⟩ := red_int Tryd.underlying3 (hr 4 _ rfl)
  obtain ⟨b, e5⟩ := red_bool Tryd.underlying4 (hr 5 _ rfl)
  simp [d3, d22, d4] at e0 e1 e2 e3 e4 e5
  subst e0 e1 e2 e3 e4 e5
  exact ⟨n0, A, n, c, B, m, d, n3, n4, b, x6, rfl, h1, h2, h3, h4, w3, w4⟩
end
end Go.Proofs.YtloccjkcmlkifaaDoor
end

section
/- A gap behind a cell stays behind that cell: plain lists. -/
namespace Go.Proofs.YtloccjkcmlkifaaDoor
open Go.RowKit Go.Proofs.YtloccjkcmlkifaaDoor.PAll Go.Proofs.YtloccjkcmlkifaaDoorW.PrintWords

theorem made_good {o : S41} {c m : Int} {n : Nat} (h : MadeOK o c m n) (hn : n ≤ 1000) (hc : 1 ≤ c ∧ c ≤ 2) (hm : 1 ≤ m ∧ m ≤ 1024) : Good o := by
 have hid : ¬ badID o := by
  unfold badID
  rw [h.id]
  rintro ⟨_, h2⟩
  unfold isID at h2
  have := of_decide_eq_false h2
  simp only at this
  omega
 have hk := h.stands.kind
 have hex : extraB o = false := by
  unfold extraB
  refine decide_eq_false fun q => ?_
  rcases (by omega : o.f0.f1 = 1 ∨ (o.f0.f1 = 2 ∨ o.f0.f1 = 3) ∨ o.f0.f1 = 4) with k | k | k
  · obtain ⟨h3, h4, h5⟩ := h.ins k
    rw [h3, h4, h5, k] at q
    simp at q
  · obtain ⟨h1, h2, h4, h5⟩ := h.cov k
    rw [h1, h2, h4, h5] at q
    rcases q with q | q | q
    · exact absurd q.2 (by simp)
    · exact absurd k (by omega)
    · simp at q
  · obtain ⟨h1, h2, h3, _⟩ := h.sta k
    rw [h1, h2, h3, k] at q
    simp at q
 rcases (by omega : o.f0.f1 = 1 ∨ (o.f0.f1 = 2 ∨ o.f0.f1 = 3) ∨ o.f0.f1 = 4) with k | k | k
 · obtain ⟨p1, p2, j, hj, e⟩ := h.stands.ins k
   obtain ⟨q1, q2, q3⟩ := tx_chk j hj
   rw [← e] at q1 q2 q3
   exact ⟨own_mk_ins k hid hex q2 (by omega) (by omega), by omega, by rw [(h.ins k).1]; simp⟩
 · obtain ⟨h1, h2, h3⟩ := h.stands.cov k
   have h4 := nrm_len h2 (by omega) h1
   refine ⟨own_mk_cov k hid hex h1 (by rw [ok_rng (by omega) h2]) (by omega), by rw [(h.cov k).2.1]; decide, by omega⟩
 · obtain ⟨h1, h2, h3, h4, h5, h6⟩ := h.sta k
   refine ⟨?_, by rw [h2]; decide, by rw [h3]; decide⟩
   have ht : totOf o = 1048576 := by unfold totOf; rw [if_neg (by omega)]
   unfold ownE checkE
   rw [ht, if_neg (by omega), if_neg (by omega), if_neg hid, if_neg (by rw [hex]; simp), if_neg (by omega), if_pos k]
   unfold staE
   rw [if_pos]
   refine ⟨by unfold isID; exact decide_eq_true (by omega), ?_⟩
   rw [h.id]
   simp only
   omega
theorem doesE_len {l : List S48} {o : S41} (h : Stands o l.length) : (doesE l o).length = l.length + (wid o).toNat := by
 unfold doesE
 by_cases c1 : o.f0.f1 = 1
 · rw [if_pos c1]; have := h.ins c1; exact insC_len l o (by omega)
 · have hw : wid o = 0 := if_neg c1
   rw [if_neg c1, hw]
   by_cases c2 : o.f0.f1 = 2
   · rw [if_pos c2, hidC_len]; rfl
   · rw [if_neg c2]
     by_cases c3 : o.f0.f1 = 3
     · rw [if_pos c3, hidC_len]; rfl
     · rw [if_neg c3]; rfl
theorem foldE_snoc : ∀ (l : List S48) (a : List S41) (o : S41), foldE l (a ++ [o]) = doesE (foldE l a) o
 | _, [], _ => rfl
 | l, x :: t, o => foldE_snoc (doesE l x) t o
theorem standsL_snoc : ∀ (l : List S48) (a : List S41) (o : S41), StandsL l a → Stands o (foldE l a).length → (foldE l a).length ≤ 1000 → StandsL l (a ++ [o])
 | _, [], _, _, h1, h2 => ⟨h1, h2, trivial⟩
 | l, x :: t, o, h, h1, h2 => ⟨h.1, h.2.1, standsL_snoc (doesE l x) t o h.2.2 h1 h2⟩
theorem MadeRun.stands {ci : Int} {n0 : Nat} {a : List S41} {n : Nat} (h : MadeRun ci n0 a n) {l : List S48} (hl : l.length = n0) : n ≤ 1000 → StandsL l a ∧ (foldE l a).length = n := by
 induction h with
 | nil => exact fun _ => ⟨trivial, hl⟩
 | snoc hr ho ih =>
  intro hb
  obtain ⟨h1, h2⟩ := ih (by omega)
  have hs := ho.stands
  rw [← h2] at hs
  refine ⟨standsL_snoc _ _ _ h1 hs (by omega), ?_⟩
  rw [foldE_snoc, doesE_len hs, h2]
theorem MadeRun.good {ci : Int} {n0 : Nat} {a : List S41} {n : Nat} (h : MadeRun ci n0 a n) (hc : 1 ≤ ci ∧ ci ≤ 2) : n ≤ 1000 → a.length ≤ 1000 → ∀ o ∈ a, Good o := by
 induction h with
 | nil => intro _ _ o ho; cases ho
 | snoc hr ho ih =>
  intro hb hl x hx
  rw [List.length_append, List.length_singleton] at hl
  rcases List.mem_append.1 hx with hx | hx
  · exact ih (by omega) (by omega) x hx
  · rw [List.mem_singleton.1 hx]; exact made_good ho (by omega) hc (by omega)

def Behind (l : List S48) (c g : Int) : Prop := c = 0 ∧ g = 0 ∨ 0 < c ∧ 0 < g ∧ g ≤ (l.length : Int) ∧ ∃ x, l[(g - 1).toNat]? = some x ∧ x.f0.f0 = 0 ∧ x.f0.f1 = 0 ∧ x.f1 = c - 1
theorem Behind.range {l : List S48} {c g : Int} (h : Behind l c g) : 0 ≤ g ∧ g ≤ (l.length : Int) := by
 rcases h with ⟨_, h⟩ | ⟨_, h1, h2, _⟩ <;> omega
end Go.Proofs.YtloccjkcmlkifaaDoor
end

section
/- A run of the walk's own lies in one box: its operations are read and written there. -/
namespace Go.Proofs.YtloccjkcmlkifaaDoor
open Go.RowKit Go.Proofs.YtloccjkcmlkifaaDoor.PAll Go.Proofs.YtloccjkcmlkifaaDoorW.PrintWords Go.Proofs.YtloccjkcmlkifaaDoorW.PrintLast

abbrev fineRun (l : List S41) : Prop := l.length ≤ 1048576 ∧ ∀ o ∈ l, fineOp o
abbrev OV := S41 × Value
def cellsP (p : List OV) : List Value := p.flatMap fun x => (opA x.1 x.2).toList
theorem cellsP_app (p q : List OV) : cellsP (p ++ q) = cellsP p ++ cellsP q := List.flatMap_append
theorem cellsP_cons (x : OV) (q : List OV) : cellsP (x :: q) = (opA x.1 x.2).toList ++ cellsP q := List.flatMap_cons
theorem cellsP_len : ∀ p : List OV, (cellsP p).length = p.length * 9
 | [] => rfl
 | x :: t => by
  rw [cellsP_cons, List.length_append, cellsP_len t]
  show 9 + t.length * 9 = (t.length + 1) * 9
  omega
abbrev OwnP (base : Nat) (p : List OV) (W : World) : Prop := ∀ x ∈ p, OpR W base x.2 x.1
def RunAt (bs : List Bx) (i : Nat) (v : Value) (p : List OV) : Prop :=
 (v = .slice none 0 0 ∧ p = []) ∨ ∃ g c rest, v = .slice (some ⟨g, 0, none⟩) p.length c ∧ p.length ≤ c ∧ bs[i]? = some (g, 41, (cellsP p ++ rest).toArray)
theorem RunAt.cons {bs : List Bx} {i : Nat} {v : Value} {p : List OV} (h : RunAt bs i v p) (b : Bx) : RunAt (b :: bs) (i + 1) v p := by
 rcases h with h | ⟨g, c, rest, h1, h2, h3⟩
 · exact .inl h
 · exact .inr ⟨g, c, rest, h1, h2, by rw [List.getElem?_cons_succ]; exact h3⟩
theorem RunAt.tail {b : Bx} {bs : List Bx} {i : Nat} {v : Value} {p : List OV} (h : RunAt (b :: bs) (i + 1) v p) : RunAt bs i v p := by
 rcases h with h | ⟨g, c, rest, h1, h2, h3⟩
 · exact .inl h
 · exact .inr ⟨g, c, rest, h1, h2, by rw [List.getElem?_cons_succ] at h3; exact h3⟩
theorem RunAt.slice {bs : List Bx} {i : Nat} {v : Value} {p : List OV} (h : RunAt bs i v p) : ∃ A c, v = .slice A p.length c := by
 rcases h with ⟨h, rfl⟩ | ⟨g, c, rest, h1, h2, h3⟩
 · exact ⟨none, 0, h⟩
 · exact ⟨_, c, h1⟩
theorem RunAt.at_ {bs : List Bx} {i n c : Nat} {A : Option Addr} {pd pr : List OV} {x : OV} (h : RunAt bs i (.slice A n c) (pd ++ x :: pr)) :
 ∃ g rest, A = some ⟨g, 0, none⟩ ∧ n = (pd ++ x :: pr).length ∧ n ≤ c ∧ bs[i]? = some (g, 41, (cellsP (pd ++ x :: pr) ++ rest).toArray) := by
 rcases h with ⟨_, h⟩ | ⟨g, c', rest, h1, h2, h3⟩
 · simp at h
 · injection h1 with e1 e2 e3
   exact ⟨g, rest, e1, e2, by omega, h3⟩
theorem run_cells (pd pr : List OV) (x : OV) (rest : List Value) : (opA x.1 x.2).toList = ((cellsP (pd ++ x :: pr) ++ rest).drop (pd.length * 9)).take (opA x.1 x.2).toList.length := by
 rw [cellsP_app, cellsP_cons, List.append_assoc, ← cellsP_len pd, List.drop_left, List.append_assoc, List.take_left]
section
variable {P : Program} {ops : Array Oper} {rest : List Oper} {o : Oper} {a : Act} {Q : Exit → Act → World → Prop} {w0 W : World} {bs : List Bx} {F : World → Prop} {g : Nat} {t : TypeId} {cs : Array Value}
end
def RunR (w : World) (base : Nat) (v : Value) (l : List S41) : Prop := Foot (fun W => RunC W v l) w (fun k => base ≤ k)
theorem RunR.C {w : World} {base : Nat} {v : Value} {l : List S41} (h : RunR w base v l) : RunC w v l := Foot.now h
theorem runR_nil (w : World) (base : Nat) : RunR w base (.slice none 0 0) [] := fun _ _ => ⟨none, 0, rfl, Nat.le_refl _, rfl, by simp, fun h => absurd h (by simp)⟩
theorem run_C {W : World} {base : Nat} {g c : Nat} {p : List OV} {rest : List Value} (hp : OwnP base p W) (hh : W.heap[g]? = some (.cells (cellsP p ++ rest).toArray 41 (0, 0))) (hc : p.length ≤ c) (hn : p.length ≤ 1048576) : RunC W (.slice (some ⟨g, 0, none⟩) p.length c) (p.map (·.1)) := by
 refine ⟨some ⟨g, 0, none⟩, c, by rw [List.length_map], by rw [List.length_map]; exact hc, rfl, by rw [List.length_map]; omega, fun _ => ⟨_, rfl, fun j o hj => ?_⟩⟩
 rw [List.getElem?_map] at hj
 obtain ⟨x, hx, rfl⟩ := Option.map_eq_some_iff.1 hj
 obtain ⟨hjl, hjx⟩ := List.getElem?_eq_some_iff.1 hx
 have hm : x ∈ p := List.mem_of_getElem? hx
 refine ⟨(opA x.1 x.2).toList, rfl, opA_K (hp x hm).C, fun k u hu => ?_⟩
 have hsplit : p = p.take j ++ x :: p.drop (j + 1) := by
  rw [← hjx, ← List.drop_eq_getElem_cons hjl, List.take_append_drop]
 have hk : k < 9 := (List.getElem?_eq_some_iff.1 hu).1
 have hc2 := run_cells (p.take j) (p.drop (j + 1)) x rest
 rw [← hsplit, List.length_take, Nat.min_eq_left (by omega)] at hc2
 rw [add_plain, blk_cell hh, ← hu, hc2]
 rw [List.getElem?_take_of_lt (show k < (opA x.1 x.2).toList.length from hk), List.getElem?_drop, List.getElem?_toArray]
 rfl
theorem RunAt.R {w0 w : World} {bs : List Bx} {F : World → Prop} {i : Nat} {v : Value} {p : List OV} (h : RunAt bs i v p) (S : St w0 w bs F) (hp : OwnP w0.heap.size p w) (hn : p.length ≤ 1048576) : RunR w w0.heap.size v (p.map (·.1)) := by
 rcases h with ⟨rfl, rfl⟩ | ⟨g, c, rest, rfl, hc, hi⟩
 · exact runR_nil _ _
 · intro W hW
   refine run_C (base := w0.heap.size) (rest := rest) (fun x hx => Kd.R_mono (Kd.R_move (Kd.R_bound (hp x hx)) (fun k hk => hW k hk.2.1 hk.2.2.1)) (fun _ _ => trivial)) ?_ hc hn
   have hb := S.at_ i hi
   exact (hW g (S.ge i hi) (blk_lt hb)).trans hb
end Go.Proofs.YtloccjkcmlkifaaDoor
end

section
/- Cross, as both sides have it; the program's. -/
namespace Go.Proofs.YtloccjkcmlkifaaDoor
open Go.RowKit Go.Proofs.YtloccjkcmlkifaaDoor.PAll Go.Proofs.YtloccjkcmlkifaaDoorW.PrintWords Go.Proofs.YtloccjkcmlkifaaDoorW.PrintLast

def cin : List S41 → List S41 → S41 → (List S41 × S41) × Int
 | fd, [], l => ((fd, l), 0)
 | fd, f :: fr, l => if (incE l f true).2 ≠ 0 then (([], z41), (incE l f true).2) else if (incE f l false).2 ≠ 0 then (([], z41), (incE f l false).2) else cin (fd ++ [(incE f l false).1]) fr (incE l f true).1
def cout : List S41 → List S41 → List S41 → (List S41 × List S41) × Int
 | fs, ld, [] => ((fs, ld), 0)
 | fs, ld, l :: lr => if (cin [] fs l).2 ≠ 0 then (([], []), (cin [] fs l).2) else cout (cin [] fs l).1.1 (ld ++ [(cin [] fs l).1.2]) lr
abbrev goodP (p : List OV) : Prop := ∀ x ∈ p, Good x.1
structure CrossO (w : World) (R : (List S41 × List S41) × Int) (Af Al : Option Addr) (cf cl nf nl : Nat) (bs : List Bx) (i j : Nat) (pf pd pr : List OV) (wr : World) : Prop where
 ne : j ≠ i
 f : RunAt bs i (.slice Af nf cf) pf
 l : RunAt bs j (.slice Al nl cl) (pd ++ pr)
 st : St w wr bs (fun W => OwnP w.heap.size pf W ∧ OwnP w.heap.size (pd ++ pr) W)
 gf : goodP pf
 gl : goodP (pd ++ pr)
 nf : pf.length = nf
 nl : (pd ++ pr).length = nl
 eq : R = cout (pf.map (·.1)) (pd.map (·.1)) (pr.map (·.1))
structure CrossI (w : World) (R : (List S41 × S41) × Int) (Af Al : Option Addr) (cf cl nf nl : Nat) (pd pr : List OV) (bs : List Bx) (i j : Nat) (fd fr : List OV) (x : OV) (wr : World) : Prop where
 ne : j ≠ i
 f : RunAt bs i (.slice Af nf cf) (fd ++ fr)
 l : RunAt bs j (.slice Al nl cl) (pd ++ x :: pr)
 st : St w wr bs (fun W => OwnP w.heap.size (fd ++ fr) W ∧ OwnP w.heap.size (pd ++ x :: pr) W)
 gf : goodP (fd ++ fr)
 gl : goodP (pd ++ x :: pr)
 nf : (fd ++ fr).length = nf
 nl : (pd ++ x :: pr).length = nl
 eq : R = cin (fd.map (·.1)) (fr.map (·.1)) x.1
end Go.Proofs.YtloccjkcmlkifaaDoor
end

section
/- Operations of small rows are carried over one another without a fault. -/
namespace Go.Proofs.YtloccjkcmlkifaaDoor
open Go.RowKit Go.Proofs.YtloccjkcmlkifaaDoor.PAll Go.Proofs.YtloccjkcmlkifaaDoorW.PrintWords

structure Sm (o : S41) (n : Int) : Prop where
 good : Good o
 ins : o.f0.f1 = 1 → o.f1 ≤ n ∧ wid o ≤ 5
 cov : o.f0.f1 = 2 ∨ o.f0.f1 = 3 → lastHi o.f3 ≤ n
theorem Sm.mono {o : S41} {n m : Int} (h : Sm o n) (hm : n ≤ m) : Sm o m := ⟨h.good, fun k => ⟨by have := (h.ins k).1; omega, (h.ins k).2⟩, fun k => by have := h.cov k; omega⟩
theorem MadeOK.sm {o : S41} {c m : Int} {n : Nat} (h : MadeOK o c m n) (hn : n ≤ 1000) (hc : 1 ≤ c ∧ c ≤ 2) (hm : 1 ≤ m ∧ m ≤ 1024) : Sm o (n : Int) :=
 ⟨made_good h hn hc hm, fun k => ⟨(h.stands.ins k).2.1, h.stands.wid.2⟩, fun k => (h.stands.cov k).2.2⟩
theorem MadeRun.sm {ci : Int} {n0 : Nat} {a : List S41} {n : Nat} (h : MadeRun ci n0 a n) (hc : 1 ≤ ci ∧ ci ≤ 2) : n ≤ 1000 → a.length ≤ 1000 → ∀ o ∈ a, Sm o (n : Int) ∧ o.f0.f0.f0 = ci := by
 induction h with
 | nil => intro _ _ o ho; cases ho
 | snoc hr ho ih =>
  intro hb hl x hx
  rw [List.length_append, List.length_singleton] at hl
  rcases List.mem_append.1 hx with hx | hx
  · obtain ⟨h1, h2⟩ := ih (by omega) (by omega) x hx
    exact ⟨h1.mono (by omega), h2⟩
  · rw [List.mem_singleton.1 hx]; exact ⟨(ho.sm (by omega) hc (by omega)).mono (by omega), by rw [ho.id]⟩
theorem owns_zero : ∀ {l : List S41}, (∀ o ∈ l, ownE o = 0) → ownsE l = 0
 | [], _ => rfl
 | o :: t, h => by
  unfold ownsE
  rw [if_pos (h o (List.mem_cons_self ..))]
  exact owns_zero fun x hx => h x (List.mem_cons_of_mem _ hx)
end Go.Proofs.YtloccjkcmlkifaaDoor
end

section
/- Two operations of one row make the same cells, whichever comes first. -/
namespace Go.Proofs.YtloccjkcmlkifaaDoor
open Go.RowKit Go.Proofs.YtloccjkcmlkifaaDoor.PAll Go.Proofs.YtloccjkcmlkifaaDoorW.PrintWords

theorem sp_cov (p n : Int) (hn : 1 ≤ n) (r : S94) (i : Nat) : covB (sp p n r) i = if (i : Int) < p then inR r i else if (i : Int) < p + n then false else decide (r.f0 ≤ (i : Int) - n ∧ (i : Int) - n < r.f1) := by
 unfold sp covB
 by_cases c1 : (i : Int) < p
 · rw [if_pos c1]
   split
   · simp
   · split
     · simp only [List.any_cons, List.any_nil, Bool.or_false, inR]
       rw [decide_eq_false (by omega), decide_eq_false (by omega)]
     · simp only [List.any_cons, List.any_nil, Bool.or_false, inR]
       rw [Bool.eq_iff_iff]
       simp only [Bool.or_eq_true, decide_eq_true_eq]
       omega
 · rw [if_neg c1]
   by_cases c2 : (i : Int) < p + n
   · rw [if_pos c2]
     split
     · simp only [List.any_cons, List.any_nil, Bool.or_false, inR]
       rw [decide_eq_false (by omega)]
     · split
       · simp only [List.any_cons, List.any_nil, Bool.or_false, inR]
         rw [decide_eq_false (by omega)]
       · simp only [List.any_cons, List.any_nil, Bool.or_false, inR]
         rw [decide_eq_false (by omega), decide_eq_false (by omega)]; rfl
   · rw [if_neg c2]
     split
     · simp only [List.any_cons, List.any_nil, Bool.or_false, inR]
       rw [decide_eq_false (by omega), decide_eq_false (by omega)]
     · split
       · simp only [List.any_cons, List.any_nil, Bool.or_false, inR]
         rw [Bool.eq_iff_iff]
         simp only [decide_eq_true_eq]
         omega
       · simp only [List.any_cons, List.any_nil, Bool.or_false, inR]
         rw [Bool.eq_iff_iff]
         simp only [Bool.or_eq_true, decide_eq_true_eq]
         omega
theorem thr_cov (p n : Int) (hn : 1 ≤ n) (i : Nat) : ∀ (rs : List S94) (x : Int), Nrm x rs → covB (thrS p n rs) i = if (i : Int) < p then covB rs i else if (i : Int) < p + n then false else rs.any fun r => decide (r.f0 ≤ (i : Int) - n ∧ (i : Int) - n < r.f1)
 | [], _, _ => by unfold thrS covB; simp
 | r :: t, x, h => by
  have ih := thr_cov p n hn i t r.f1 h.2.2.2
  have hs := sp_cov p n hn r i
  have e : covB (thrS p n (r :: t)) i = (covB (sp p n r) i || covB (thrS p n t) i) := by unfold thrS covB; simp
  rw [e, ih, hs]
  by_cases c1 : (i : Int) < p
  · rw [if_pos c1, if_pos c1, if_pos c1]; unfold covB; simp
  · rw [if_neg c1, if_neg c1, if_neg c1]
    by_cases c2 : (i : Int) < p + n
    · rw [if_pos c2, if_pos c2, if_pos c2]; rfl
    · rw [if_neg c2, if_neg c2, if_neg c2]; simp
theorem bump_comm (a b : Int) (c : S48) : bumpC a (bumpC b c) = bumpC b (bumpC a c) := by
 unfold bumpC
 simp only
 congr 1
 unfold wrap64
 omega
theorem hid_comm (a b : Int) (r s : List S94) (l : List S48) : hidC a r (hidC b s l) = hidC b s (hidC a r l) := by
 refine List.ext_getElem? fun i => ?_
 rw [hidC_at, hidC_at, hidC_at, hidC_at]
 cases l[i]? with
 | none => rfl
 | some c =>
  simp only [Option.map_some, Option.some.injEq]
  by_cases h1 : covB r i = true <;> by_cases h2 : covB s i = true <;> simp [h1, h2, bump_comm]
theorem ins_at (l : List S48) (o : S41) (hp : 0 ≤ o.f1 ∧ o.f1 ≤ (l.length : Int)) (i : Nat) :
 (insC l o)[i]? = if (i : Int) < o.f1 then l[i]? else if (i : Int) < o.f1 + (wid o).toNat then some ⟨⟨o.f0.f0.f0, o.f0.f0.f1⟩, (i : Int) - o.f1, 0⟩ else l[i - (wid o).toNat]? := by
 unfold insC newC
 have hlt : (l.take o.f1.toNat).length = o.f1.toNat := by simp; omega
 by_cases c1 : (i : Int) < o.f1
 · rw [if_pos c1, List.append_assoc, List.getElem?_append_left (by omega), List.getElem?_take_of_lt (by omega)]
 · rw [if_neg c1]
   by_cases c2 : (i : Int) < o.f1 + (wid o).toNat
   · rw [if_pos c2, List.append_assoc, List.getElem?_append_right (by omega), List.getElem?_append_left (by simp; omega), hlt, List.getElem?_map, List.getElem?_range (by omega)]
     simp only [Option.map_some, Option.some.injEq, S48.mk.injEq, true_and, and_true]
     omega
   · rw [if_neg c2, List.append_assoc, List.getElem?_append_right (by omega), List.getElem?_append_right (by simp; omega), hlt, List.getElem?_drop]
     congr 1
     simp
     omega
theorem tp_ins_cov (l : List S48) (o : S41) (b x : Int) (rs : List S94) (hp : 0 ≤ o.f1 ∧ o.f1 ≤ (l.length : Int)) (hw : 1 ≤ wid o) (hN : Nrm x rs) : hidC b (thrS o.f1 (wid o) rs) (insC l o) = insC (hidC b rs l) o := by
 refine List.ext_getElem? fun i => ?_
 rw [hidC_at, ins_at l o hp, ins_at _ o (by rw [hidC_len]; exact hp), thr_cov _ _ hw i rs x hN]
 have ew : ((wid o).toNat : Int) = wid o := by omega
 rw [ew]
 by_cases c1 : (i : Int) < o.f1
 · rw [if_pos c1, if_pos c1, if_pos c1, hidC_at]
 · rw [if_neg c1, if_neg c1, if_neg c1]
   by_cases c2 : (i : Int) < o.f1 + wid o
   · rw [if_pos c2, if_pos c2, if_pos c2, Option.map_some, if_neg (by simp)]
   · rw [if_neg c2, if_neg c2, if_neg c2, hidC_at]
     have e : (rs.any fun r => decide (r.f0 ≤ (i : Int) - wid o ∧ (i : Int) - wid o < r.f1)) = covB rs (i - (wid o).toNat) := by
      unfold covB inR
      rw [show ((i - (wid o).toNat : Nat) : Int) = (i : Int) - wid o by omega]
     rw [e]
theorem tp_ins_ins (l : List S48) (x y z : S41) (hx : 0 ≤ x.f1 ∧ x.f1 ≤ (l.length : Int)) (hy : 0 ≤ y.f1 ∧ y.f1 ≤ (l.length : Int)) (hw : 1 ≤ wid x) (hv : 1 ≤ wid y) (h : x.f1 ≤ y.f1) (z1 : z.f0 = y.f0) (z2 : z.f1 = y.f1 + wid x) (z3 : wid z = wid y) :
 insC (insC l x) z = insC (insC l y) x := by
 have l1 := insC_len l x (by omega)
 have l2 := insC_len l y (by omega)
 have ex : ((wid x).toNat : Int) = wid x := by omega
 have ey : ((wid y).toNat : Int) = wid y := by omega
 refine List.ext_getElem? fun i => ?_
 rw [ins_at (insC l x) z (by rw [l1, z2]; omega), ins_at (insC l y) x (by rw [l2]; omega), z1, z2, z3, ex, ey]
 by_cases c1 : (i : Int) < x.f1
 · rw [if_pos (by omega), if_pos c1, ins_at l x hx, if_pos c1, ins_at l y hy, if_pos (by omega)]
 · rw [if_neg c1]
   by_cases c2 : (i : Int) < x.f1 + wid x
   · rw [if_pos (by omega), if_pos c2, ins_at l x hx, if_neg c1, ex, if_pos c2]
   · rw [if_neg c2, ins_at l y hy, ey]
     have ei : ((i - (wid x).toNat : Nat) : Int) = (i : Int) - wid x := by omega
     by_cases c3 : (i : Int) < y.f1 + wid x
     · rw [if_pos c3, ins_at l x hx, if_neg c1, ex, if_neg c2, ei, if_pos (by omega)]
     · rw [if_neg c3, ei, if_neg (show ¬ (i : Int) - wid x < y.f1 by omega)]
       by_cases c4 : (i : Int) < y.f1 + wid x + wid y
       · rw [if_pos c4, if_pos (by omega)]
         congr 2
         omega
       · rw [if_neg c4, if_neg (by omega), ins_at l x hx]
         have e2 : ((i - (wid y).toNat : Nat) : Int) = (i : Int) - wid y := by omega
         rw [e2, if_neg (by omega), ex, if_neg (by omega)]
         congr 1
         omega
def incS (a b : S41) (e : Bool) : S41 :=
 if b.f0.f1 ≠ 1 then a else if a.f0.f1 = 1 then (if b.f1 < a.f1 ∨ b.f1 = a.f1 ∧ e = true then ⟨a.f0, a.f1 + wid b, a.f2, [], a.f4, a.f5⟩ else a)
 else if a.f0.f1 = 2 ∨ a.f0.f1 = 3 then ⟨a.f0, a.f1, a.f2, thrS b.f1 (wid b) a.f3, a.f4, a.f5⟩ else a
theorem inc_val {a b : S41} {e : Bool} {n : Int} (ha : Sm a n) (hb : Sm b n) (hn : n ≤ 3000) (hid : a.f0.f0.f0 ≠ b.f0.f0.f0) : incE a b e = (incS a b e, 0) := by
 have ga := ha.good
 have gb := hb.good
 have hc : ¬ clashB a b = true := by
  unfold clashB
  intro h
  exact hid (of_decide_eq_true h).1
 unfold incE incP
 rw [if_neg hc]
 by_cases kb : b.f0.f1 = 1
 case neg =>
  have hS : incS a b e = a := by unfold incS; rw [if_pos kb]
  rw [if_pos kb, hS]
 have hwb := hb.ins kb
 have hb1 := gb.wid1 kb
 have hne : ¬ b.f0.f1 ≠ 1 := fun q => q kb
 rw [if_neg hne]
 by_cases ka : a.f0.f1 = 1
 · rw [if_pos ka]
   have hwa := ha.ins ka
   by_cases c : b.f1 < a.f1 ∨ b.f1 = a.f1 ∧ e = true
   · have hS : incS a b e = ⟨a.f0, a.f1 + wid b, a.f2, [], a.f4, a.f5⟩ := by unfold incS; rw [if_neg hne, if_pos ka, if_pos c]
     rw [if_pos c, hS]
     unfold moveE
     rw [if_neg (by omega)]
   · have hS : incS a b e = a := by unfold incS; rw [if_neg hne, if_pos ka, if_neg c]
     rw [if_neg c, hS]
 · rw [if_neg ka]
   by_cases kc : a.f0.f1 = 2 ∨ a.f0.f1 = 3
   · have hS : incS a b e = ⟨a.f0, a.f1, a.f2, thrS b.f1 (wid b) a.f3, a.f4, a.f5⟩ := by unfold incS; rw [if_neg hne, if_neg ka, if_pos kc]
     rw [if_pos kc, hS]
     have hl := ha.cov kc
     obtain ⟨_, hN⟩ := rng_ok (ga.rng kc)
     have hl0 : 0 < a.f3.length := Nat.pos_of_ne_zero ((own_ok ga.own).2.2.2.2.2.1 kc).1
     have hlen := nrm_len hN (by omega) hl0
     have hth := thr_len b.f1 (wid b) a.f3
     have e1 : ¬ (0 < a.f3.length ∧ b.f1 < lastHi a.f3 ∧ 1048576 < lastHi a.f3 + wid b) := by omega
     have e2 : ¬ 32768 < (thrS b.f1 (wid b) a.f3).length := by omega
     have et : thrE a.f3 b.f1 (wid b) = (thrS b.f1 (wid b) a.f3, 0) := by
      unfold thrE bnd
      rw [if_neg e1, if_neg e2]
     rw [et]
     unfold rangedE
     rw [if_pos rfl]
   · have hS : incS a b e = a := by unfold incS; rw [if_neg hne, if_neg ka, if_neg kc]
     rw [if_neg kc, hS]
theorem doesE_ins {o : S41} (k : o.f0.f1 = 1) (l : List S48) : doesE l o = insC l o := by unfold doesE; rw [if_pos k]
def byO (o : S41) : Int := if o.f0.f1 = 2 then 1 else -1
theorem doesE_cov {o : S41} (k : o.f0.f1 = 2 ∨ o.f0.f1 = 3) (l : List S48) : doesE l o = hidC (byO o) o.f3 l := by
 unfold doesE byO
 rw [if_neg (by omega)]
 by_cases c : o.f0.f1 = 2
 · rw [if_pos c, if_pos c]
 · rw [if_neg c, if_neg c, if_pos (by omega)]
theorem doesE_sta {o : S41} (k : o.f0.f1 = 4) (l : List S48) : doesE l o = l := by
 unfold doesE
 rw [if_neg (by omega), if_neg (by omega), if_neg (by omega)]
theorem Stands.wid1 {o : S41} {n : Nat} (h : Stands o n) (k : o.f0.f1 = 1) : 1 ≤ Go.Proofs.YtloccjkcmlkifaaDoor.wid o := by
 obtain ⟨_, _, j, hj, e⟩ := h.ins k
 unfold Go.Proofs.YtloccjkcmlkifaaDoor.wid
 rw [if_pos k, e, (tx_chk j hj).1]
 omega
def mvS (a b : S41) : S41 := ⟨a.f0, a.f1 + wid b, a.f2, [], a.f4, a.f5⟩
def thS (a b : S41) : S41 := ⟨a.f0, a.f1, a.f2, thrS b.f1 (wid b) a.f3, a.f4, a.f5⟩
theorem incS_n {a b : S41} {e : Bool} (kb : b.f0.f1 ≠ 1) : incS a b e = a := by unfold incS; rw [if_pos kb]
theorem incS_ii {a b : S41} {e : Bool} (ka : a.f0.f1 = 1) (kb : b.f0.f1 = 1) : incS a b e = if b.f1 < a.f1 ∨ b.f1 = a.f1 ∧ e = true then mvS a b else a := by unfold incS mvS; rw [if_neg (fun q => q kb), if_pos ka]
theorem incS_ci {a b : S41} {e : Bool} (ka : a.f0.f1 = 2 ∨ a.f0.f1 = 3) (kb : b.f0.f1 = 1) : incS a b e = thS a b := by unfold incS thS; rw [if_neg (fun q => q kb), if_neg (by omega), if_pos ka]
theorem incS_si {a b : S41} {e : Bool} (ka : a.f0.f1 = 4) : incS a b e = a := by
 by_cases kb : b.f0.f1 = 1
 · unfold incS; rw [if_neg (fun q => q kb), if_neg (by omega), if_neg (by omega)]
 · exact incS_n kb
theorem tp1 {l : List S48} {a b : S41} (ha : Stands a l.length) (hb : Stands b l.length) : doesE (doesE l a) (incS b a true) = doesE (doesE l b) (incS a b false) := by
 have hk := ha.kind
 have hq := hb.kind
 rcases (by omega : a.f0.f1 = 1 ∨ (a.f0.f1 = 2 ∨ a.f0.f1 = 3) ∨ a.f0.f1 = 4) with ka | ka | ka <;>
  rcases (by omega : b.f0.f1 = 1 ∨ (b.f0.f1 = 2 ∨ b.f0.f1 = 3) ∨ b.f0.f1 = 4) with kb | kb | kb
 · obtain ⟨a1, a2, _⟩ := ha.ins ka
   obtain ⟨b1, b2, _⟩ := hb.ins kb
   rw [doesE_ins ka, doesE_ins kb, incS_ii kb ka, incS_ii ka kb]
   by_cases c : a.f1 ≤ b.f1
   · have c1 : a.f1 < b.f1 ∨ a.f1 = b.f1 ∧ true = true := by
      rcases (by omega : a.f1 < b.f1 ∨ a.f1 = b.f1) with h | h
      · exact .inl h
      · exact .inr ⟨h, rfl⟩
     have c2 : ¬ (b.f1 < a.f1 ∨ b.f1 = a.f1 ∧ false = true) := by
      rintro (h | ⟨_, h⟩)
      · omega
      · cases h
     rw [if_pos c1, if_neg c2, doesE_ins (o := mvS b a) kb, doesE_ins ka]
     exact tp_ins_ins l a b (mvS b a) ⟨a1, a2⟩ ⟨b1, b2⟩ (ha.wid1 ka) (hb.wid1 kb) c rfl rfl rfl
   · have c1 : ¬ (a.f1 < b.f1 ∨ a.f1 = b.f1 ∧ true = true) := by
      rintro (h | ⟨h, _⟩) <;> omega
     rw [if_neg c1, if_pos (.inl (by omega)), doesE_ins kb, doesE_ins (o := mvS a b) ka]
     exact (tp_ins_ins l b a (mvS a b) ⟨b1, b2⟩ ⟨a1, a2⟩ (hb.wid1 kb) (ha.wid1 ka) (by omega) rfl rfl rfl).symm
 · obtain ⟨a1, a2, _⟩ := ha.ins ka
   rw [incS_ci kb ka, incS_n (by omega), doesE_ins ka, doesE_cov kb, doesE_ins ka, doesE_cov (o := thS b a) kb]
   exact tp_ins_cov l a _ _ b.f3 ⟨a1, a2⟩ (ha.wid1 ka) (hb.cov kb).2.1
 · rw [incS_si kb, incS_n (by omega), doesE_sta kb, doesE_sta kb]
 · obtain ⟨b1, b2, _⟩ := hb.ins kb
   rw [incS_n (by omega), incS_ci ka kb, doesE_ins kb, doesE_cov ka, doesE_ins kb, doesE_cov (o := thS a b) ka]
   exact (tp_ins_cov l b _ _ a.f3 ⟨b1, b2⟩ (hb.wid1 kb) (ha.cov ka).2.1).symm
 · rw [incS_n (by omega), incS_n (by omega), doesE_cov ka, doesE_cov kb, doesE_cov kb, doesE_cov ka]
   exact hid_comm _ _ _ _ _
 · rw [incS_n (by omega), incS_n (by omega), doesE_sta kb, doesE_sta kb]
 · rw [incS_n (by omega), incS_si ka, doesE_sta ka, doesE_sta ka]
 · rw [incS_n (by omega), incS_n (by omega), doesE_sta ka, doesE_sta ka]
 · rw [incS_n (by omega), incS_n (by omega), doesE_sta ka, doesE_sta ka]
theorem inc_stands {a b : S41} {e : Bool} {n : Nat} (hn : n ≤ 3000) (ha : Stands a n) (hb : Stands b n) : Stands (incS a b e) (n + (wid b).toNat) := by
 have self : Stands a (n + (wid b).toNat) := ⟨ha.kind, fun k => by
  obtain ⟨h1, h2, h3⟩ := ha.ins k
  exact ⟨h1, by omega, h3⟩, fun k => by
  obtain ⟨h1, h2, h3⟩ := ha.cov k
  exact ⟨h1, h2, by omega⟩⟩
 unfold incS
 by_cases kb : b.f0.f1 = 1
 case neg => rw [if_pos kb]; exact self
 rw [if_neg (fun q => q kb)]
 have hw := hb.wid
 have hw1 := hb.wid1 kb
 obtain ⟨b1, b2, _⟩ := hb.ins kb
 by_cases ka : a.f0.f1 = 1
 · rw [if_pos ka]
   obtain ⟨a1, a2, a3⟩ := ha.ins ka
   split
   · exact ⟨ha.kind, fun _ => ⟨by show 0 ≤ a.f1 + wid b; omega, by show a.f1 + wid b ≤ ((n + (wid b).toNat : Nat) : Int); omega, a3⟩, fun k => absurd (show a.f0.f1 = 2 ∨ a.f0.f1 = 3 from k) (by omega)⟩
   · exact self
 · rw [if_neg ka]
   by_cases kc : a.f0.f1 = 2 ∨ a.f0.f1 = 3
   · rw [if_pos kc]
     obtain ⟨h1, h2, h3⟩ := ha.cov kc
     have hB := thrS_nrm b.f1 (wid b) hw1 a.f3 (-1) h2
     have hsh : sh b.f1 (wid b) (-1) = -1 := by unfold sh; rw [if_pos (by omega)]
     rw [hsh] at hB
     have hla : lastHi (thrS b.f1 (wid b) a.f3) ≤ ((n + (wid b).toNat : Nat) : Int) := by
      rw [thr_last _ _ h1]
      unfold sh
      split <;> omega
     exact ⟨ha.kind, fun k => absurd (show a.f0.f1 = 1 from k) ka, fun _ => ⟨thrS_ne _ _ h1, hB.nrm fun r hr => by have := hB.le_last r hr; omega, hla⟩⟩
   · rw [if_neg kc]; exact self
end Go.Proofs.YtloccjkcmlkifaaDoor
end

section
/- xform.exclude, told of whole operations. -/
namespace Go.Proofs.YtloccjkcmlkifaaDoor
open Go.RowKit Go.Proofs.YtloccjkcmlkifaaDoor.PAll Go.Proofs.YtloccjkcmlkifaaDoorW.PrintWords

attribute [local go_sem high] eqA35 idx35_0 idx35_1
end Go.Proofs.YtloccjkcmlkifaaDoor
end

section
/- span.Back, of ranges in order. -/
namespace Go.Proofs.YtloccjkcmlkifaaDoor
open Go.RowKit Go.Proofs.YtloccjkcmlkifaaDoor.PAll Go.Proofs.YtloccjkcmlkifaaDoorW.PrintWords

theorem lastLe.mono {acc : List S94} {p q : Int} (h : lastLe acc p) (hq : p ≤ q) : lastLe acc q := fun h0 => Int.le_trans (h h0) hq
section
variable (L : List S94) (p n : Int) (hp : 0 ≤ p ∧ p ≤ 1048576) (hn : 1 ≤ n ∧ n ≤ 1048576) (hL : L.length ≤ 1048576)
include hp hn hL
end
end Go.Proofs.YtloccjkcmlkifaaDoor
end

section
/- xform.transpose, told of whole operations. -/
namespace Go.Proofs.YtloccjkcmlkifaaDoor
open Go.RowKit Go.Proofs.YtloccjkcmlkifaaDoor.PAll Go.Proofs.YtloccjkcmlkifaaDoorW.PrintWords Go.Proofs.YtloccjkcmlkifaaDoorW.PrintLast

attribute [local go_sem high] eqA35 idx35_0 idx35_1
end Go.Proofs.YtloccjkcmlkifaaDoor
end

section
/- Include, Exclude, Transpose of the program, told of whole operations. -/
namespace Go.Proofs.YtloccjkcmlkifaaDoor
open Go.RowKit Go.Proofs.YtloccjkcmlkifaaDoor.PAll Go.Proofs.YtloccjkcmlkifaaDoorW.PrintWords Go.Proofs.YtloccjkcmlkifaaDoorW.PrintLast

def wrap1 (a b : S41) (r : S41 × Int) : S41 × Int := if ownsE [a, b] = 0 then r else (z41, ownsE [a, b])
theorem owns_goods {a b : S41} (h : ownsE [a, b] = 0) (fa : fineOp a) (fb : fineOp b) : Good a ∧ Good b :=
 have g := owns_good h (by intro x hx; simp only [List.mem_cons, List.not_mem_nil, or_false] at hx; rcases hx with rfl | rfl <;> assumption)
 ⟨g a (by simp), g b (by simp)⟩
set_option maxRecDepth 100000 in
set_option maxHeartbeats 4000000 in
theorem Include_any (a b : S41) (e : Bool) (va vb : Value) (w : World) (hG : GW w) (ha : OpC w va a) (hb : OpC w vb b) (fa : fineOp a) (fb : fineOp b) :
 Calls Tryd.prog 26 #[.agg (opA a va), .agg (opA b vb), .bool e] w (RetOp w (wrap1 a b (incE a b e))) := by
 obtain ⟨A, c, rfl, h1, h2⟩ := ha
 obtain ⟨B, d, rfl, h3, h4⟩ := hb
 have S := Aside0.mk (St.init w (F := fun _ => True) (fun _ _ => trivial))
 have HA := Aside0.mk (opC_mk h1 h2); have HB := Aside0.mk (opC_mk h3 h4)
 have HG := Aside0.mk hG
 have HF := Aside0.mk (show ∀ x ∈ [a, b], fineOp x by intro x hx; simp only [List.mem_cons, List.not_mem_nil, or_false] at hx; rcases hx with rfl | rfl <;> assumption)
 have HLE := Aside0.mk (show [a, b].length ≤ 1048576 by simp)
 unfold wrap1
 clear h1 h2 h3 h4 hG
 by_cases h : ownsE [a, b] = 0
 · rw [if_pos h]
   have HX := Aside0.mk (owns_goods h fa fb)
   have h' : (ownsE [a, b] != 0) = false := bne_eq_false_iff_eq.mpr h
   clear h fa fb
   go_enter Tryd.func26, Tryd.ntmps26
   go_wp2_with (first | ((with_reducible refine gate_box rfl ?_); refine ev_box S ?_; clear S; intro _ _ S) | ((with_reducible refine gate_new rfl ?_); refine ev_new S 41 zA ?_; clear S; intro _ _ S) | ((with_reducible refine gate_load rfl ?_); refine ev_load S ?_) | ((with_reducible refine gate_lit rfl ?_); refine ev_lit S (opA a (.slice A a.f3.length c) ++ opA b (.slice B b.f3.length d)) 2 ?_; clear S; intro _ _ S) | (go_at_call 55; (with_reducible refine (owns_any [a, b] _ _ (GW.below HG.out S.out.below) (runC_box2 (S.out.at_ 0 rfl) (HA.out.below S.out.below) (HB.out.below S.out.below)) HF.out HLE.out).mono ?_); rintro e_ w7 ⟨rfl, hb⟩; replace S := Aside0.mk (S.out.step hb); clear hb) | ((with_reducible refine gate_st rfl ?_); refine ev_store S ?_; clear S; intro _ S) | (go_at_call 56; (with_reducible refine (incE_prog a b e _ _ _ (GW.below HG.out S.out.below) (HA.out.below S.out.below) (HB.out.below S.out.below) HX.out.1 HX.out.2).mono ?_); rintro e_ w7 ⟨v, rfl, hR, hb⟩; obtain ⟨Ai, ci, rfl⟩ := hR.slice; replace S := Aside0.mk (S.out.addOp hb hR); clear hb hR))
   exact bodyPost_ret (results_ct rfl _ _ _ 41 _ (0, 0) _ rfl (S.out.at_ 1 rfl) Tryd.underlying41 rfl (by kernel_rfl)) rfl ⟨_, rfl, S.out.now.2, S.out.below⟩
 · rw [if_neg h]
   have h' : (ownsE [a, b] != 0) = true := bne_iff_ne.mpr h
   have HX : Aside0 (Good a ∧ Good b → True) := ⟨fun _ => trivial⟩
   clear h fa fb
   go_enter Tryd.func26, Tryd.ntmps26
   go_wp2_with (first | ((with_reducible refine gate_box rfl ?_); refine ev_box S ?_; clear S; intro _ _ S) | ((with_reducible refine gate_new rfl ?_); refine ev_new S 41 zA ?_; clear S; intro _ _ S) | ((with_reducible refine gate_load rfl ?_); refine ev_load S ?_) | ((with_reducible refine gate_lit rfl ?_); refine ev_lit S (opA a (.slice A a.f3.length c) ++ opA b (.slice B b.f3.length d)) 2 ?_; clear S; intro _ _ S) | (go_at_call 55; (with_reducible refine (owns_any [a, b] _ _ (GW.below HG.out S.out.below) (runC_box2 (S.out.at_ 0 rfl) (HA.out.below S.out.below) (HB.out.below S.out.below)) HF.out HLE.out).mono ?_); rintro e_ w7 ⟨rfl, hb⟩; replace S := Aside0.mk (S.out.step hb); clear hb) | ((with_reducible refine gate_st rfl ?_); refine ev_store S ?_; clear S; intro _ S) | (go_at_call 56; (with_reducible refine (incE_prog a b e _ _ _ (GW.below HG.out S.out.below) (HA.out.below S.out.below) (HB.out.below S.out.below) HX.out.1 HX.out.2).mono ?_); rintro e_ w7 ⟨v, rfl, hR, hb⟩; obtain ⟨Ai, ci, rfl⟩ := hR.slice; replace S := Aside0.mk (S.out.addOp hb hR); clear hb hR))
   exact bodyPost_ret (results_ct rfl _ _ _ 41 zA (0, 0) _ rfl (S.out.at_ 1 rfl) Tryd.underlying41 rfl (by kernel_rfl)) rfl ⟨.slice none 0 0, rfl, opR_nil _ _, S.out.below⟩
end Go.Proofs.YtloccjkcmlkifaaDoor
end

section
/- A step of kind 5 (Cross) is answered as the document says. -/
namespace Go.Proofs.YtloccjkcmlkifaaDoor
open Go.RowKit Go.Proofs.YtloccjkcmlkifaaDoor.PAll Go.Proofs.YtloccjkcmlkifaaDoorW.PrintWords Go.Proofs.YtloccjkcmlkifaaDoorW.PrintLast

theorem RunC.slice {w : World} {v : Value} {l : List S41} (h : RunC w v l) : ∃ A c, v = .slice A l.length c := by
 obtain ⟨A, c, e, _⟩ := h
 exact ⟨A, c, e⟩
end Go.Proofs.YtloccjkcmlkifaaDoor
end

section
/- An insert as the statements make it. -/
namespace Go.Proofs.YtloccjkcmlkifaaDoor
open Go.RowKit Go.Proofs.YtloccjkcmlkifaaDoor.PAll Go.Proofs.YtloccjkcmlkifaaDoorW.PrintWords Go.Proofs.YtloccjkcmlkifaaDoorW.PrintLast

abbrev insO (c n at_ : Int) (t : ByteArray) : S41 := ⟨⟨⟨c, n⟩, 1⟩, at_, t, [], ⟨0, 0⟩, false⟩
theorem opC_nil (w : World) (o : S41) (h : o.f3 = []) : OpC w (.slice none 0 0) o := by
 have e : k94.C w none 0 [] := by
  have := (opR_nil w 0).C
  obtain ⟨A, c, e, _, h⟩ := this
  injection e with e1 _ _
  rw [← e1] at h; exact h
 exact ⟨none, 0, by rw [h]; rfl, by rw [h]; exact Nat.le_refl _, by rw [h]; exact e⟩
theorem ins_any (c n at_ : Int) (t : ByteArray) (w : World) : Calls Tryd.prog 25 #[.int .i64 c, .int .i64 n, .int .i64 at_, .string t] w fun e w' => e = .returned (.agg (opA (insO c n at_ t) (.slice none 0 0))) ∧ Below w.heap.size w w' := by
 have S := Aside0.mk (St.init w (F := fun _ => True) (fun _ _ => trivial))
 go_enter Tryd.func25, Tryd.ntmps25
 go_wp2_with (first | ((with_reducible refine gate_new rfl ?_); refine ev_new S 41 zA ?_; clear S; intro _ _ S) | ((with_reducible refine gate_st rfl ?_); refine ev_store S ?_; clear S; intro _ S))
 exact bodyPost_ret (results_cell_row rfl _ _ _ 41 _ (0, 0) _ rfl (S.out.at_ 0 rfl) Tryd.underlying41 rfl (by kernel_rfl)) rfl ⟨rfl, S.out.below⟩
end Go.Proofs.YtloccjkcmlkifaaDoor
end

section
/- XformCaretStays: the walk. -/
namespace Go.Proofs.YtloccjkcmlkifaaDoor
open Go.RowKit Go.Proofs.YtloccjkcmlkifaaDoor.PAll Go.Proofs.YtloccjkcmlkifaaDoorW.PrintWords Go.Proofs.YtloccjkcmlkifaaDoorW.PrintLast

def CellsC (w : World) (v : Value) (l : List S48) : Prop := ∃ A c, v = .slice A l.length c ∧ l.length ≤ c ∧ k48.C w A l.length l
theorem CellsC.below {w w' : World} {v : Value} {l : List S48} (h : CellsC w v l) (hb : Below w.heap.size w w') : CellsC w' v l := by
 obtain ⟨A, c, e, h1, h2⟩ := h
 exact ⟨A, c, e, h1, Kd.C_below h2 hb⟩
theorem row_any (n : Nat) (w : World) (hn : n ≤ 1000) : Calls Tryd.prog 19 #[.int .i64 n] w fun e w' => ∃ v, e = .returned v ∧ Kd.R k48 48 w' w.heap.size (fun _ => True) v (rowE n) ∧ Below w.heap.size w w' :=
 redraftlaw05_row.calls (n + 1) n (rowE n) w (row_is n (by omega))
theorem fold_any {b : Nat} {ok : Nat → Prop} (l : List S48) (run : List S41) (v u : Value) (w : World) (hv : Kd.R k48 48 w b ok v l) (hu : RunC w u run) (hr : run.length ≤ 1048576) (h : StandsL l run) :
 Calls Tryd.prog 24 #[v, u] w fun e w' => ∃ r, e = .returned (.tuple #[r, .bool true]) ∧ CellsC w' r (foldE l run) ∧ Below w.heap.size w w' := by
 obtain ⟨K, hK⟩ := fold_is l run hr h
 obtain ⟨A, c, rfl⟩ := Kd.R_slice hv
 obtain ⟨B, d, rfl, h1, h2⟩ := hu
 refine (redraftlaw05_fold.calls K ok A c l B d run (foldE l run) true w (Kd.R_V hv) h2 h1 hK).mono ?_
 rintro e w' ⟨r, he, hV, hb⟩
 obtain ⟨C, f, rfl⟩ := Kd.V_slice hV
 obtain ⟨_, h3, h4⟩ := Kd.V_reads' hV
 exact ⟨_, he, ⟨C, f, rfl, h3, h4⟩, hb⟩
theorem RunC.elem {w : World} {A : Option Addr} {n c : Nat} {l : List S41} (h : RunC w (.slice A n c) l) (i : Nat) (hi : i < l.length) :
 ∃ ad A5 c5, A = some ad ∧ (∀ W, Below w.heap.size w W → atL W (ad.add (i * 9)) 0 (opA (l.getD i z41) (.slice A5 (l.getD i z41).f3.length c5)).toList) ∧ OpC w (.slice A5 (l.getD i z41).f3.length c5) (l.getD i z41) := by
 obtain ⟨A', c', e, _, hC⟩ := h
 injection e with e1 e2 e3
 subst e1
 exact elem_C hC i hi
theorem SpecsC.below {w w' : World} {v : Value} {n : Nat} (h : SpecsC w v n) (hb : Below w.heap.size w w') : SpecsC w' v n := by
 obtain ⟨A, c, e, h1, h2⟩ := h
 refine ⟨A, c, e, h1, fun i hi => ?_⟩
 obtain ⟨ad, kd, at_, m, P, cp, l, on, e1, h3, h4, h5⟩ := h2 i hi
 exact ⟨ad, kd, at_, m, P, cp, l, on, e1, fun W hW => h3 W (below_then hb hb.size hW), h4, Kd.C_below h5 hb⟩
theorem eqID (w : World) (a b a' b' : Int) : (Op.equalIn 10000 35 (.agg #[.int .i64 a, .int .i64 b]) (.agg #[.int .i64 a', .int .i64 b'])).run Tryd.prog w = .ok (a == a' && b == b') w :=
 run_equalIn_pair w 9998 35 3 .i64 a b a' b' Tryd.underlying35 Tryd.underlying3 (by kernel_rfl)
attribute [local go_sem] eqID
end Go.Proofs.YtloccjkcmlkifaaDoor
end

section
/- The document's own examples, played. -/
namespace Go.Proofs.YtloccjkcmlkifaaDoor
open Go.RowKit Go.Proofs.YtloccjkcmlkifaaDoor.PAll Go.Proofs.YtloccjkcmlkifaaDoorW.PrintWords Go.Proofs.YtloccjkcmlkifaaDoorW.PrintLast

abbrev cx : S41 := insO 1 1 5 ⟨#[120]⟩
abbrev ex : S41 := insO 2 1 3 ⟨#[120]⟩
end Go.Proofs.YtloccjkcmlkifaaDoor
end

section
/- XformOverIsCross: the walk. -/
namespace Go.Proofs.YtloccjkcmlkifaaDoor
open Go.RowKit Go.Proofs.YtloccjkcmlkifaaDoor.PAll Go.Proofs.YtloccjkcmlkifaaDoorW.PrintWords Go.Proofs.YtloccjkcmlkifaaDoorW.PrintLast

section
variable {P : Program} {ops : Array Oper} {Q : Exit → Act → World → Prop} {md : Region.Mode} {S : World → Prop} {ds : List Nat} {fuel : Nat} {l : Array Bool} {a : Act} {w w0 : World} {oi : Oper} {N : Tmp} {bs : List Bx} {F : World → Prop}
theorem bs_ (i : Nat) (cs : Array Value) (n : Nat) {ty : TypeId} {xs : Array (Nat × Operand)} (hSt : St w0 w bs F)
 (h : ∀ g w', St w0 w' ((g, 41, cs) :: bs) F → S w' ∧ (S w' → wpAnyLast P md ops Q S ds fuel (l.setIfInBounds i true) (a.put (some N) (.slice (some ⟨g, 0, none⟩) n n)) w'))
 (hi : ops[i]? = some oi := by rfl) (hN : oi.dst = some N := by rfl) (hc : readyB md ops l (l.setIfInBounds i true) i = true := by kernel_rfl) (hd : i ∉ ds := by decide)
 (ho : oi.op = .buildSlice ty n xs := by rfl)
 (hw : Region.wanted oi (yielded ops a.tmps) = true := by first | exact wanted_plain rfl | (refine wanted_on rfl ?_; simp [yielded]))
 (hrun : (execOp a.eval oi).run P w = .ok (.value (.slice (some ⟨w.heap.size, 0, none⟩) n n)) (w.alloc (.cells cs 41 (0, 0))) := by first | (go_simp; done) | (go_simp; rfl)) : wpAnyLast P md ops Q S ds (fuel + 1) l a w :=
 one_ (l.setIfInBounds i true) hi hN hc hd fun K hK => by
  have _ := ho
  rw [if_pos hw]
  unfold Oper.wp
  rw [hrun]
  show K (a.put oi.dst _) _
  rw [hN]
  obtain ⟨h1, h2⟩ := h _ _ (hSt.push (below_alloc (Below.refl _ _) _) (blk_new w _) rfl)
  exact hK.out _ _ h1 h2
end
theorem RunC.head {w : World} {A : Option Addr} {n c : Nat} {x : S41} (h : RunC w (.slice A n c) [x]) :
 ∃ ad A5 c5, A = some ad ∧ (∀ W, Below w.heap.size w W → atL W ad 0 (opA x (.slice A5 x.f3.length c5)).toList) ∧ OpC w (.slice A5 x.f3.length c5) x := by
 obtain ⟨A', c', e, _, hC⟩ := h
 injection e with e1 e2 e3
 subst e1
 obtain ⟨ad, A5, c5, h1, h2, h3⟩ := elem_C hC 0 (by simp)
 exact ⟨ad, A5, c5, h1, fun W hW => by simpa [Addr.add] using h2 W hW, h3⟩
theorem SpecsC.later {w w' : World} {v : Value} {n : Nat} (h : SpecsC w v n) (hb : Below w.heap.size w w') : SpecsC w' v n := by
 obtain ⟨A, c, e, h1, h2⟩ := h
 refine ⟨A, c, e, h1, fun i hi => ?_⟩
 obtain ⟨ad, kd, at_, m, P, cp, l, on, e1, h3, h4, h5⟩ := h2 i hi
 exact ⟨ad, kd, at_, m, P, cp, l, on, e1, fun W hW => h3 W (below_then hb hb.size hW), h4, Kd.C_below h5 hb⟩
theorem MadeRun.fine {ci : Int} {n0 : Nat} {a : List S41} {n : Nat} (h : MadeRun ci n0 a n) (hc : 1 ≤ ci ∧ ci ≤ 2) (hn : n ≤ 1000) (hl : a.length ≤ 100) : fineRun a := ⟨by omega, fun o ho => (h.good hc hn (by omega) o ho).fine⟩
end Go.Proofs.YtloccjkcmlkifaaDoor
end
