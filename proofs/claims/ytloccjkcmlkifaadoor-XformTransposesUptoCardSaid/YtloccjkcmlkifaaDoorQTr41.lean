/- XformTransposes_card, part 41. -/
import Derived.Test.YtloccjkcmlkifaaDoorQTr40
import Derived.Test.YtloccjkcmlkifaaDoorQTr31

section
/- Include, Exclude, Transpose of the program, told of whole operations. -/
namespace Go.Proofs.YtloccjkcmlkifaaDoor
open Go.RowKit Go.Proofs.YtloccjkcmlkifaaDoor.PAll Go.Proofs.YtloccjkcmlkifaaDoorW.PrintWords Go.Proofs.YtloccjkcmlkifaaDoorW.PrintLast

def wrap1 (a b : S41) (r : S41 × Int) : S41 × Int := if ownsE [a, b] = 0 then r else (z41, ownsE [a, b])
def wrap2 (a b : S41) (r : S41 × S41 × Int) : S41 × S41 × Int := if ownsE [a, b] = 0 then r else (z41, z41, ownsE [a, b])
theorem owns_goods {a b : S41} (h : ownsE [a, b] = 0) (fa : fineOp a) (fb : fineOp b) : Good a ∧ Good b :=
 have g := owns_good h (by intro x hx; simp only [List.mem_cons, List.not_mem_nil, or_false] at hx; rcases hx with rfl | rfl <;> assumption)
 ⟨g a (by simp), g b (by simp)⟩
set_option maxRecDepth 100000 in
set_option maxHeartbeats 4000000 in
theorem Include_any (a b : S41) (e : Bool) (va vb : Value) (w : World) (hG : GW w) (ha : OpC w va a) (hb : OpC w vb b) (fa : fineOp a) (fb : fineOp b) :
 Calls Tryd.prog 26 #[.agg (opA a va), .agg (opA b vb), .bool e] w (RetOp w (wrap1 a b (incE a b e))) := by
 obtain ⟨A, c, rfl, h1, h2⟩ := ha
 obtain ⟨B, d, rfl, h3, h4⟩ := hb
 have S := Aside0.mk (St.init w (F := fun _ => True) (fun _ _ => trivial))
 have HA := Aside0.mk (opC_mk h1 h2); have HB := Aside0.mk (opC_mk h3 h4)
 have HG := Aside0.mk hG
 have HF := Aside0.mk (show ∀ x ∈ [a, b], fineOp x by intro x hx; simp only [List.mem_cons, List.not_mem_nil, or_false] at hx; rcases hx with rfl | rfl <;> assumption)
 have HLE := Aside0.mk (show [a, b].length ≤ 1048576 by simp)
 unfold wrap1
 clear h1 h2 h3 h4 hG
 by_cases h : ownsE [a, b] = 0
 · rw [if_pos h]
   have HX := Aside0.mk (owns_goods h fa fb)
   have h' : (ownsE [a, b] != 0) = false := bne_eq_false_iff_eq.mpr h
   clear h fa fb
   go_enter Tryd.func26, Tryd.ntmps26
   go_wp2_with (first | ((with_reducible refine gate_box rfl ?_); refine ev_box S ?_; clear S; intro _ _ S) | ((with_reducible refine gate_new rfl ?_); refine ev_new S 41 zA ?_; clear S; intro _ _ S) | ((with_reducible refine gate_load rfl ?_); refine ev_load S ?_) | ((with_reducible refine gate_lit rfl ?_); refine ev_lit S (opA a (.slice A a.f3.length c) ++ opA b (.slice B b.f3.length d)) 2 ?_; clear S; intro _ _ S) | (go_at_call 55; (with_reducible refine (owns_any [a, b] _ _ (GW.below HG.out S.out.below) (runC_box2 (S.out.at_ 0 rfl) (HA.out.below S.out.below) (HB.out.below S.out.below)) HF.out HLE.out).mono ?_); rintro e_ w7 ⟨rfl, hb⟩; replace S := Aside0.mk (S.out.step hb); clear hb) | ((with_reducible refine gate_st rfl ?_); refine ev_store S ?_; clear S; intro _ S) | (go_at_call 56; (with_reducible refine (incE_prog a b e _ _ _ (GW.below HG.out S.out.below) (HA.out.below S.out.below) (HB.out.below S.out.below) HX.out.1 HX.out.2).mono ?_); rintro e_ w7 ⟨v, rfl, hR, hb⟩; obtain ⟨Ai, ci, rfl⟩ := hR.slice; replace S := Aside0.mk (S.out.addOp hb hR); clear hb hR))
   exact bodyPost_ret (results_ct rfl _ _ _ 41 _ (0, 0) _ rfl (S.out.at_ 1 rfl) Tryd.underlying41 rfl (by kernel_rfl)) rfl ⟨_, rfl, S.out.now.2, S.out.below⟩
 · rw [if_neg h]
   have h' : (ownsE [a, b] != 0) = true := bne_iff_ne.mpr h
   have HX : Aside0 (Good a ∧ Good b → True) := ⟨fun _ => trivial⟩
   clear h fa fb
   go_enter Tryd.func26, Tryd.ntmps26
   go_wp2_with (first | ((with_reducible refine gate_box rfl ?_); refine ev_box S ?_; clear S; intro _ _ S) | ((with_reducible refine gate_new rfl ?_); refine ev_new S 41 zA ?_; clear S; intro _ _ S) | ((with_reducible refine gate_load rfl ?_); refine ev_load S ?_) | ((with_reducible refine gate_lit rfl ?_); refine ev_lit S (opA a (.slice A a.f3.length c) ++ opA b (.slice B b.f3.length d)) 2 ?_; clear S; intro _ _ S) | (go_at_call 55; (with_reducible refine (owns_any [a, b] _ _ (GW.below HG.out S.out.below) (runC_box2 (S.out.at_ 0 rfl) (HA.out.below S.out.below) (HB.out.below S.out.below)) HF.out HLE.out).mono ?_); rintro e_ w7 ⟨rfl, hb⟩; replace S := Aside0.mk (S.out.step hb); clear hb) | ((with_reducible refine gate_st rfl ?_); refine ev_store S ?_; clear S; intro _ S))
   exact bodyPost_ret (results_ct rfl _ _ _ 41 zA (0, 0) _ rfl (S.out.at_ 1 rfl) Tryd.underlying41 rfl (by kernel_rfl)) rfl ⟨.slice none 0 0, rfl, opR_nil _ _, S.out.below⟩
set_option maxRecDepth 100000 in
set_option maxHeartbeats 4000000 in
theorem Exclude_any (a b : S41) (va vb : Value) (w : World) (hG : GW w) (ha : OpC w va a) (hb : OpC w vb b) (fa : fineOp a) (fb : fineOp b) :
 Calls Tryd.prog 58 #[.agg (opA a va), .agg (opA b vb)] w (RetOp w (wrap1 a b (excE a b))) := by
 obtain ⟨A, c, rfl, h1, h2⟩ := ha
 obtain ⟨B, d, rfl, h3, h4⟩ := hb
 have S := Aside0.mk (St.init w (F := fun _ => True) (fun _ _ => trivial))
 have HA := Aside0.mk (opC_mk h1 h2); have HB := Aside0.mk (opC_mk h3 h4)
 have HG := Aside0.mk hG
 have HF := Aside0.mk (show ∀ x ∈ [a, b], fineOp x by intro x hx; simp only [List.mem_cons, List.not_mem_nil, or_false] at hx; rcases hx with rfl | rfl <;> assumption)
 have HLE := Aside0.mk (show [a, b].length ≤ 1048576 by simp)
 unfold wrap1
 clear h1 h2 h3 h4 hG
 by_cases h : ownsE [a, b] = 0
 · rw [if_pos h]
   have HX := Aside0.mk (owns_goods h fa fb)
   have h' : (ownsE [a, b] != 0) = false := bne_eq_false_iff_eq.mpr h
   clear h fa fb
   go_enter Tryd.func58, Tryd.ntmps58
   go_wp2_with (first | ((with_reducible refine gate_box rfl ?_); refine ev_box S ?_; clear S; intro _ _ S) | ((with_reducible refine gate_new rfl ?_); refine ev_new S 41 zA ?_; clear S; intro _ _ S) | ((with_reducible refine gate_load rfl ?_); refine ev_load S ?_) | ((with_reducible refine gate_lit rfl ?_); refine ev_lit S (opA a (.slice A a.f3.length c) ++ opA b (.slice B b.f3.length d)) 2 ?_; clear S; intro _ _ S) | (go_at_call 55; (with_reducible refine (owns_any [a, b] _ _ (GW.below HG.out S.out.below) (runC_box2 (S.out.at_ 0 rfl) (HA.out.below S.out.below) (HB.out.below S.out.below)) HF.out HLE.out).mono ?_); rintro e_ w7 ⟨rfl, hb⟩; replace S := Aside0.mk (S.out.step hb); clear hb) | ((with_reducible refine gate_st rfl ?_); refine ev_store S ?_; clear S; intro _ S) | (go_at_call 75; (with_reducible refine (excE_prog a b _ _ _ (GW.below HG.out S.out.below) (HA.out.below S.out.below) (HB.out.below S.out.below) HX.out.1 HX.out.2).mono ?_); rintro e_ w7 ⟨v, rfl, hR, hb⟩; obtain ⟨Ai, ci, rfl⟩ := hR.slice; replace S := Aside0.mk (S.out.addOp hb hR); clear hb hR))
   exact bodyPost_ret (results_ct rfl _ _ _ 41 _ (0, 0) _ rfl (S.out.at_ 1 rfl) Tryd.underlying41 rfl (by kernel_rfl)) rfl ⟨_, rfl, S.out.now.2, S.out.below⟩
 · rw [if_neg h]
   have h' : (ownsE [a, b] != 0) = true := bne_iff_ne.mpr h
   have HX : Aside0 (Good a ∧ Good b → True) := ⟨fun _ => trivial⟩
   clear h fa fb
   go_enter Tryd.func58, Tryd.ntmps58
   go_wp2_with (first | ((with_reducible refine gate_box rfl ?_); refine ev_box S ?_; clear S; intro _ _ S) | ((with_reducible refine gate_new rfl ?_); refine ev_new S 41 zA ?_; clear S; intro _ _ S) | ((with_reducible refine gate_load rfl ?_); refine ev_load S ?_) | ((with_reducible refine gate_lit rfl ?_); refine ev_lit S (opA a (.slice A a.f3.length c) ++ opA b (.slice B b.f3.length d)) 2 ?_; clear S; intro _ _ S) | (go_at_call 55; (with_reducible refine (owns_any [a, b] _ _ (GW.below HG.out S.out.below) (runC_box2 (S.out.at_ 0 rfl) (HA.out.below S.out.below) (HB.out.below S.out.below)) HF.out HLE.out).mono ?_); rintro e_ w7 ⟨rfl, hb⟩; replace S := Aside0.mk (S.out.step hb); clear hb) | ((with_reducible refine gate_st rfl ?_); refine ev_store S ?_; clear S; intro _ S))
   exact bodyPost_ret (results_ct rfl _ _ _ 41 zA (0, 0) _ rfl (S.out.at_ 1 rfl) Tryd.underlying41 rfl (by kernel_rfl)) rfl ⟨.slice none 0 0, rfl, opR_nil _ _, S.out.below⟩
set_option maxRecDepth 100000 in
set_option maxHeartbeats 4000000 in
theorem Transpose_any (a b : S41) (va vb : Value) (w : World) (hG : GW w) (ha : OpC w va a) (hb : OpC w vb b) (fa : fineOp a) (fb : fineOp b) :
 Calls Tryd.prog 59 #[.agg (opA a va), .agg (opA b vb)] w (RetOp2 w (wrap2 a b (trE a b))) := by
 obtain ⟨A, c, rfl, h1, h2⟩ := ha
 obtain ⟨B, d, rfl, h3, h4⟩ := hb
 have S := Aside0.mk (St.init w (F := fun _ => True) (fun _ _ => trivial))
 have HA := Aside0.mk (opC_mk h1 h2); have HB := Aside0.mk (opC_mk h3 h4)
 have HG := Aside0.mk hG
 have HF := Aside0.mk (show ∀ x ∈ [a, b], fineOp x by intro x hx; simp only [List.mem_cons, List.not_mem_nil, or_false] at hx; rcases hx with rfl | rfl <;> assumption)
 have HLE := Aside0.mk (show [a, b].length ≤ 1048576 by simp)
 unfold wrap2
 clear h1 h2 h3 h4 hG
 by_cases h : ownsE [a, b] = 0
 · rw [if_pos h]
   have HX := Aside0.mk (owns_goods h fa fb)
   have h' : (ownsE [a, b] != 0) = false := bne_eq_false_iff_eq.mpr h
   clear h fa fb
   go_enter Tryd.func59, Tryd.ntmps59
   go_wp2_with (first | ((with_reducible refine gate_box rfl ?_); refine ev_box S ?_; clear S; intro _ _ S) | ((with_reducible refine gate_new rfl ?_); refine ev_new S 41 zA ?_; clear S; intro _ _ S) | ((with_reducible refine gate_load rfl ?_); refine ev_load S ?_) | ((with_reducible refine gate_lit rfl ?_); refine ev_lit S (opA a (.slice A a.f3.length c) ++ opA b (.slice B b.f3.length d)) 2 ?_; clear S; intro _ _ S) | (go_at_call 55; (with_reducible refine (owns_any [a, b] _ _ (GW.below HG.out S.out.below) (runC_box2 (S.out.at_ 0 rfl) (HA.out.below S.out.below) (HB.out.below S.out.below)) HF.out HLE.out).mono ?_); rintro e_ w7 ⟨rfl, hb⟩; replace S := Aside0.mk (S.out.step hb); clear hb) | ((with_reducible refine gate_st rfl ?_); refine ev_store S ?_; clear S; intro _ S) | (go_at_call 62; (with_reducible refine (trE_prog a b _ _ _ (GW.below HG.out S.out.below) (HA.out.below S.out.below) (HB.out.below S.out.below) HX.out.1 HX.out.2).mono ?_); rintro e_ w7 ⟨v, v2, rfl, hR, hR2, hb⟩; obtain ⟨Ai, ci, rfl⟩ := hR.slice; obtain ⟨Aj, cj, rfl⟩ := hR2.slice; replace S := Aside0.mk (S.out.addR2 hb hR hR2); clear hb hR hR2))
   exact bodyPost_ret (results_cct rfl _ _ _ _ 41 41 _ _ (0, 0) (0, 0) _ _ rfl (S.out.at_ 2 rfl) Tryd.underlying41 rfl (by kernel_rfl) rfl (S.out.at_ 1 rfl) Tryd.underlying41 rfl (by kernel_rfl)) rfl ⟨_, _, rfl, S.out.now.1.2, S.out.now.2, S.out.below⟩
 · rw [if_neg h]
   have h' : (ownsE [a, b] != 0) = true := bne_iff_ne.mpr h
   have HX : Aside0 (Good a ∧ Good b → True) := ⟨fun _ => trivial⟩
   clear h fa fb
   go_enter Tryd.func59, Tryd.ntmps59
   go_wp2_with (first | ((with_reducible refine gate_box rfl ?_); refine ev_box S ?_; clear S; intro _ _ S) | ((with_reducible refine gate_new rfl ?_); refine ev_new S 41 zA ?_; clear S; intro _ _ S) | ((with_reducible refine gate_load rfl ?_); refine ev_load S ?_) | ((with_reducible refine gate_lit rfl ?_); refine ev_lit S (opA a (.slice A a.f3.length c) ++ opA b (.slice B b.f3.length d)) 2 ?_; clear S; intro _ _ S) | (go_at_call 55; (with_reducible refine (owns_any [a, b] _ _ (GW.below HG.out S.out.below) (runC_box2 (S.out.at_ 0 rfl) (HA.out.below S.out.below) (HB.out.below S.out.below)) HF.out HLE.out).mono ?_); rintro e_ w7 ⟨rfl, hb⟩; replace S := Aside0.mk (S.out.step hb); clear hb) | ((with_reducible refine gate_st rfl ?_); refine ev_store S ?_; clear S; intro _ S))
   exact bodyPost_ret (results_cct rfl _ _ _ _ 41 41 zA zA (0, 0) (0, 0) _ _ rfl (S.out.at_ 2 rfl) Tryd.underlying41 rfl (by kernel_rfl) rfl (S.out.at_ 1 rfl) Tryd.underlying41 rfl (by kernel_rfl)) rfl ⟨.slice none 0 0, .slice none 0 0, rfl, opR_nil _ _, opR_nil _ _, S.out.below⟩
end Go.Proofs.YtloccjkcmlkifaaDoor
end

section
/- What the document finds ahead of an insert of ranges behind it: as span.Back. -/
namespace Go.Proofs.YtloccjkcmlkifaaDoor
open Go.RowKit Go.Proofs.YtloccjkcmlkifaaDoor.PAll Go.Proofs.YtloccjkcmlkifaaDoorW.PrintWords

theorem am0 (k : Nat) (lo hi : Int) (h : 0 ≤ lo ∧ lo < hi ∧ hi ≤ 2097152) : redraftref05_among.f (k + 2) ctx0 0 lo hi = some [⟨lo, hi⟩] := by
 unfold redraftref05_among.f
 rw [show redraftref05_among.l0 (k + 2) ctx0 0 lo hi [] 0 0 = _ from am_step (k + 1) ctx0 0 lo hi 0 [] 0 (by simp) (by simp) ⟨0, 0, 2097152⟩ rfl (by simp; omega) (by simp)]
 have m1 : mx lo 0 = lo := by unfold mx; split <;> omega
 have m2 : mn hi 2097152 = hi := by unfold mn; split <;> omega
 rw [if_pos ⟨rfl, by show (0 : Int) < hi; omega, by show lo < 2097152; omega⟩]
 simp only [m1, m2]
 rw [redraftref05_among.l0, if_neg (by simp)]
 simp
theorem am2 (k : Nat) (lo hi : Int) (h : 0 ≤ lo ∧ lo ≤ 2097152 ∧ 0 ≤ hi ∧ hi ≤ 2097152) : redraftref05_among.f (k + 2) ctx0 2 lo hi = some [] := by
 unfold redraftref05_among.f
 rw [show redraftref05_among.l0 (k + 2) ctx0 2 lo hi [] 0 0 = _ from am_step (k + 1) ctx0 2 lo hi 0 [] 0 (by simp) (by simp) ⟨0, 0, 2097152⟩ rfl (by simp; omega) (by simp)]
 rw [if_neg (fun q => absurd q.1 (by simp)), redraftref05_among.l0, if_neg (by simp)]
section
variable (row : List S154) (l : List S94)
theorem fd_in (k i : Nat) (out : List S94) (s0 e f t : Int) (st : Int) (hi : i < l.length) (hl : l.length ≤ 1048576) (r : S94) (hr : l.getD i z94 = r) (nx : Int)
 (hb : 0 ≤ s0 ∧ s0 ≤ r.f0 ∧ r.f0 < r.f1 ∧ r.f1 ≤ 1048576 ∧ r.f0 < e ∧ r.f1 ≤ e ∧ 0 ≤ f ∧ f ≤ s0) (ho : out.length ≤ 1048576) :
 redraftref05_found.l1 (k + 4) row ctx0 l out s0 nx st e (i : Int) 0 f t = redraftref05_found.l1 (k + 2) row ctx0 l (out ++ [⟨r.f0 + f - s0, r.f1 + f - s0⟩]) s0 ((i + 1 : Nat) : Int) st e ((i + 1 : Nat) : Int) 0 f t := by
 obtain ⟨b1, b2, b3, b4, b5, b6, b7, b8⟩ := hb
 have e1 : rd_T94 l (i : Int) = r := by unfold rd_T94; rw [Int.toNat_natCast, hr]
 have q1 : (i : Int) < (l.length : Int) := by omega
 have q2 : (0 : Int) ≤ (i : Int) := by omega
 have m1 : mx r.f0 s0 = r.f0 := by unfold mx; split <;> omega
 have m2 : mn r.f1 e = r.f1 := by unfold mn; split <;> omega
 have w1 : wrap64 (wrap64 (f + r.f0) - s0) = r.f0 + f - s0 := by rw [wrap_id (n := f + r.f0) (by omega) (by omega), wrap_id (by omega) (by omega)]; omega
 have w2 : wrap64 (wrap64 (f + r.f1) - s0) = r.f1 + f - s0 := by rw [wrap_id (n := f + r.f1) (by omega) (by omega), wrap_id (by omega) (by omega)]; omega
 have w3 : wrap64 ((i : Int) + 1) = ((i + 1 : Nat) : Int) := by rw [wrap_id (by omega) (by omega)]; omega
 have q3 : out.length + 1 < 8796093022208 := by omega
 have am := am0 k (r.f0 + f - s0) (r.f1 + f - s0) (by omega)
 rw [show k + 4 = (k + 3) + 1 from rfl, redraftref05_found.l1, if_pos q1, if_pos q2, e1, decide_eq_true b5, show k + 3 = (k + 2) + 1 from rfl, redraftref05_found.j2, if_pos rfl, if_pos q2, if_pos q1, e1, m1, m2, w1, w2, am]
 simp only [Option.bind_some]
 rw [if_neg (by simp), if_pos (by simpa using q3)]
 show (if r.f1 > e then _ else _) = _
 rw [if_neg (by omega), w3]
theorem fd_break (k i : Nat) (out : List S94) (s0 e f t : Int) (st : Int) (hi : i < l.length) (_hl : l.length ≤ 1048576) (r : S94) (hr : l.getD i z94 = r) (nx : Int)
 (hb : 0 ≤ s0 ∧ s0 ≤ r.f0 ∧ r.f0 < r.f1 ∧ r.f1 ≤ 1048576 ∧ r.f0 < e ∧ e < r.f1 ∧ 0 ≤ f ∧ f ≤ s0) (ho : out.length ≤ 1048576) :
 redraftref05_found.l1 (k + 4) row ctx0 l out s0 nx st e (i : Int) 0 f t = redraftref05_found.l0 (k + 2) row ctx0 l (out ++ [⟨r.f0 + f - s0, e + f - s0⟩]) e nx (wrap64 (st + 1)) := by
 obtain ⟨b1, b2, b3, b4, b5, b6, b7, b8⟩ := hb
 have e1 : rd_T94 l (i : Int) = r := by unfold rd_T94; rw [Int.toNat_natCast, hr]
 have q1 : (i : Int) < (l.length : Int) := by omega
 have q2 : (0 : Int) ≤ (i : Int) := by omega
 have m1 : mx r.f0 s0 = r.f0 := by unfold mx; split <;> omega
 have m2 : mn r.f1 e = e := by unfold mn; split <;> omega
 have w1 : wrap64 (wrap64 (f + r.f0) - s0) = r.f0 + f - s0 := by rw [wrap_id (n := f + r.f0) (by omega) (by omega), wrap_id (by omega) (by omega)]; omega
 have w2 : wrap64 (wrap64 (f + e) - s0) = e + f - s0 := by rw [wrap_id (n := f + e) (by omega) (by omega), wrap_id (by omega) (by omega)]; omega
 have q3 : out.length + 1 < 8796093022208 := by omega
 have am := am0 k (r.f0 + f - s0) (e + f - s0) (by omega)
 rw [show k + 4 = (k + 3) + 1 from rfl, redraftref05_found.l1, if_pos q1, if_pos q2, e1, decide_eq_true b5, show k + 3 = (k + 2) + 1 from rfl, redraftref05_found.j2, if_pos rfl, if_pos q2, if_pos q1, e1, m1, m2, w1, w2, am]
 simp only [Option.bind_some]
 rw [if_neg (by simp), if_pos (by simpa using q3)]
 show (if r.f1 > e then _ else _) = _
 rw [if_pos (by omega)]
theorem fd_hit (k i : Nat) (out : List S94) (s0 e t : Int) (st : Int) (hi : i < l.length) (_hl : l.length ≤ 1048576) (r : S94) (hr : l.getD i z94 = r) (nx : Int)
 (hb : 0 ≤ s0 ∧ s0 ≤ 1048576 ∧ 0 ≤ r.f0 ∧ r.f0 < r.f1 ∧ r.f1 ≤ 1048576 ∧ r.f0 < e ∧ s0 < r.f1 ∧ s0 ≤ e ∧ e ≤ 2097152) :
 redraftref05_found.l1 (k + 4) row ctx0 l out s0 nx st e (i : Int) 2 0 t = some ([], 23) := by
 obtain ⟨b1, b2, b3, b4, b5, b6, b7, b8, b9⟩ := hb
 have e1 : rd_T94 l (i : Int) = r := by unfold rd_T94; rw [Int.toNat_natCast, hr]
 have q1 : (i : Int) < (l.length : Int) := by omega
 have q2 : (0 : Int) ≤ (i : Int) := by omega
 have bx : s0 ≤ mx r.f0 s0 ∧ mx r.f0 s0 ≤ 1048576 := by unfold mx; split <;> omega
 have bn : s0 ≤ mn r.f1 e ∧ mn r.f1 e ≤ 2097152 := by unfold mn; split <;> omega
 have w1 : wrap64 (wrap64 (0 + mx r.f0 s0) - s0) = mx r.f0 s0 - s0 := by rw [wrap_id (n := 0 + mx r.f0 s0) (by omega) (by omega), wrap_id (by omega) (by omega)]; omega
 have w2 : wrap64 (wrap64 (0 + mn r.f1 e) - s0) = mn r.f1 e - s0 := by rw [wrap_id (n := 0 + mn r.f1 e) (by omega) (by omega), wrap_id (by omega) (by omega)]; omega
 have am := am2 k (mx r.f0 s0 - s0) (mn r.f1 e - s0) (by omega)
 rw [show k + 4 = (k + 3) + 1 from rfl, redraftref05_found.l1, if_pos q1, if_pos q2, e1, decide_eq_true b6, show k + 3 = (k + 2) + 1 from rfl, redraftref05_found.j2, if_pos rfl, if_pos q2, if_pos q1, e1, w1, w2, am]
 simp only [Option.bind_some]
 rw [if_pos (by simp)]
theorem fd_out (k i : Nat) (out : List S94) (s0 e who f t : Int) (st : Int) (nx : Int) (h : i < l.length → e ≤ (l.getD i z94).f0) :
 redraftref05_found.l1 (k + 2) row ctx0 l out s0 nx st e (i : Int) who f t = redraftref05_found.l0 k row ctx0 l out e nx (wrap64 (st + 1)) := by
 have e1 : rd_T94 l (i : Int) = l.getD i z94 := by unfold rd_T94; rw [Int.toNat_natCast]
 by_cases hi : i < l.length
 · have q1 : (i : Int) < (l.length : Int) := by omega
   rw [show k + 2 = (k + 1) + 1 from rfl, redraftref05_found.l1, if_pos q1, if_pos (by omega), e1, decide_eq_false (by have := h hi; omega), redraftref05_found.j2, if_neg (by simp)]
 · rw [show k + 2 = (k + 1) + 1 from rfl, redraftref05_found.l1, if_neg (by omega), redraftref05_found.j2, if_neg (by simp)]
theorem fd_next (k : Nat) (st : Nat) (out : List S94) (s0 nx : Int) (hst : st < row.length) (s : S154) (hs : row.getD st z154 = s) (hb : 0 ≤ s0 ∧ s0 ≤ 16777216 ∧ 0 ≤ s.f1 ∧ s.f1 ≤ 16777216 ∧ 0 ≤ s.f2 ∧ s.f2 ≤ 16777216) :
 redraftref05_found.l0 (k + 1) row ctx0 l out s0 nx (st : Int) = redraftref05_found.l1 k row ctx0 l out s0 nx (st : Int) (s0 + s.f2 - s.f1) nx s.f0 s.f1 s.f2 := by
 obtain ⟨b1, b2, b3, b4, b5, b6⟩ := hb
 have e1 : rd_T154 row (st : Int) = s := by unfold rd_T154; rw [Int.toNat_natCast, hs]
 have w : wrap64 (wrap64 (s0 + s.f2) - s.f1) = s0 + s.f2 - s.f1 := by rw [wrap_id (n := s0 + s.f2) (by omega) (by omega), wrap_id (by omega) (by omega)]
 rw [redraftref05_found.l0, if_pos (by omega), if_pos (by omega), e1, w]
end
theorem hits_far (p n : Int) : ∀ {l : List S94} {x : Int}, Nrm x l → p + n ≤ x + 1 → hits p n l = false
 | [], _, _, _ => rfl
 | r :: t, x, h, hx => by
  have h1 := h.1
  have h2 := h.2.1
  have := hits_far p n (l := t) h.2.2.2 (by omega)
  unfold hits at this ⊢
  rw [List.any_cons, this, decide_eq_false (by omega)]
  rfl
theorem hits_cons (p n : Int) (r : S94) (t : List S94) : hits p n (r :: t) = (decide (p < r.f1 ∧ r.f0 < p + n) || hits p n t) := rfl
theorem wk_mv (p n : Int) (hn : 1 ≤ n) : ∀ {l : List S94} {x : Int}, Nrm x l → hits p n l = false → Wk (l.map (mv p n))
 | [], _, _, _ => trivial
 | [r], x, h, hh => by
  show (mv p n r).f0 < (mv p n r).f1
  have := h.2.1
  unfold mv; split
  · exact this
  · show r.f0 - n < r.f1 - n; omega
 | r :: s :: t, x, h, hh => by
  rw [hits_cons, Bool.or_eq_false_iff] at hh
  have ih := wk_mv p n hn (l := s :: t) h.2.2.2 hh.2
  have h2 := h.2.1
  have h3 := h.2.2.2.1
  have h4 := h.2.2.2.2.1
  have hs := hh.2
  rw [hits_cons, Bool.or_eq_false_iff] at hs
  have q1 := of_decide_eq_false hh.1
  have q2 := of_decide_eq_false hs.1
  refine ⟨?_, ?_, ih⟩
  · unfold mv; split
    · exact h2
    · show r.f0 - n < r.f1 - n; omega
  · unfold mv
    by_cases c1 : r.f1 ≤ p
    · rw [if_pos c1]
      by_cases c2 : s.f1 ≤ p
      · rw [if_pos c2]; omega
      · rw [if_neg c2]; show r.f1 ≤ s.f0 - n; omega
    · rw [if_neg c1, if_neg (by omega)]; show r.f1 - n ≤ s.f0 - n; omega
theorem getD_drop (l : List S94) (i : Nat) (h : i < l.length) : l.drop i = l.getD i z94 :: l.drop (i + 1) := by
 rw [List.drop_eq_getElem_cons h, List.getD_eq_getElem?_getD, List.getElem?_eq_getElem h]; rfl
section
variable (l : List S94) (p n : Int) (hp : 0 ≤ p ∧ p ≤ 1048576) (hn : 1 ≤ n ∧ n ≤ 1048576) (hL : l.length ≤ 32768) (R : List S94) (K : Nat)
include hp hn hL
theorem fd3 (row : List S154) (q : Nat) (hq : q + 1 = row.length) (hq2 : q ≤ 100) (hR : ∀ k, K ≤ k → redraftref02_Places.f k (l.map (mv p n)) = some R) :
 ∀ (d k i : Nat) (out : List S94) (x : Int), l.length = i + d → p + n ≤ x + 1 → Nrm x (l.drop i) → out ++ (l.drop i).map (mv p n) = l.map (mv p n) → out.length ≤ i + 1 → K + 2 * d + 10 ≤ k →
 redraftref05_found.l1 k row ctx0 l out (p + n) (i : Int) (q : Int) (2097152 + n) (i : Int) 0 p 2097152 = some (R, 0) := by
 intro d
 induction d with
 | zero =>
  intro k i out x h1 hx hN ho hol hk
  obtain ⟨k, rfl⟩ : ∃ m, k = m + 3 := ⟨k - 3, by omega⟩
  rw [List.drop_eq_nil_of_le (by omega)] at ho
  have ho' : out = l.map (mv p n) := by simpa using ho
  have hk' : K ≤ k := by omega
  have g1 : ¬ ((q + 1 : Nat) : Int) < (row.length : Int) := by omega
  have g2 : i < l.length → 2097152 + n ≤ (l.getD i z94).f0 := fun h => by omega
  have w : wrap64 ((q : Int) + 1) = ((q + 1 : Nat) : Int) := by clear ho hol hk hR; rw [wrap_id (by omega) (by omega)]; omega
  rw [show k + 3 = (k + 1) + 2 from rfl, fd_out row l (k + 1) i out _ _ _ _ _ _ _ g2, redraftref05_found.l0, w, if_neg g1, ho', hR k hk']
  rfl
 | succ d ih =>
  intro k i out x h1 hx hN ho hol hk
  obtain ⟨k, rfl⟩ : ∃ m, k = m + 4 := ⟨k - 4, by omega⟩
  have hi : i < l.length := by omega
  have hd := getD_drop l i hi
  obtain ⟨r, hr⟩ : ∃ r, r = l.getD i z94 := ⟨_, rfl⟩
  rw [← hr] at hd
  rw [hd] at hN ho
  obtain ⟨b1, b2, b3, b4⟩ := hN
  have hm : mv p n r = ⟨r.f0 + p - (p + n), r.f1 + p - (p + n)⟩ := by
   unfold mv
   rw [if_neg (by omega), show r.f0 + p - (p + n) = r.f0 - n by omega, show r.f1 + p - (p + n) = r.f1 - n by omega]
  have g0 : 0 ≤ p + n ∧ p + n ≤ r.f0 ∧ r.f0 < r.f1 ∧ r.f1 ≤ 1048576 ∧ r.f0 < 2097152 + n ∧ r.f1 ≤ 2097152 + n ∧ 0 ≤ p ∧ p ≤ p + n := by omega
  have g1 : l.length = (i + 1) + d := by omega
  have g2 : p + n ≤ r.f1 + 1 := by omega
  have g3 : (out ++ [(⟨r.f0 + p - (p + n), r.f1 + p - (p + n)⟩ : S94)]).length ≤ (i + 1) + 1 := by simp; omega
  have g4 : K + 2 * d + 10 ≤ k + 2 := by omega
  have g5 : l.length ≤ 1048576 := by omega
  have g6 : out.length ≤ 1048576 := by omega
  rw [fd_in row l k i out (p + n) (2097152 + n) p 2097152 q hi g5 r hr.symm _ g0 g6]
  exact ih (k + 2) (i + 1) _ r.f1 g1 g2 b4 (by rw [← ho, ← hm, List.map_cons]; simp) g3 g4
variable (hpn : p + n ≤ 1048576)
include hpn
theorem fd2 (row : List S154) (q : Nat) (hq : q + 2 = row.length) (hq2 : q ≤ 90) (hrow : row.getD (q + 1) z154 = ⟨0, p, 2097152⟩) (hR : hits p n l = false → ∀ k, K ≤ k → redraftref02_Places.f k (l.map (mv p n)) = some R)
 (k i : Nat) (out : List S94) (x : Int) (h1 : i ≤ l.length) (hx : -1 ≤ x) (hN : Nrm x (l.drop i)) (hpi : i < l.length → p < (l.getD i z94).f1) (hpre : hits p n (l.drop i) = false → hits p n l = false ∧ out ++ (l.drop i).map (mv p n) = l.map (mv p n)) (hol : out.length ≤ i + 1) (hk : K + 2 * l.length + 20 ≤ k) :
 redraftref05_found.l1 k row ctx0 l out p (i : Int) (q : Int) (p + n) (i : Int) 2 0 n = some (if hits p n (l.drop i) = true then ([], 23) else (R, 0)) := by
 obtain ⟨k, rfl⟩ : ∃ m, k = m + 4 := ⟨k - 4, by omega⟩
 by_cases c : i < l.length ∧ (l.getD i z94).f0 < p + n
 · obtain ⟨hi, c⟩ := c
   have hd := getD_drop l i hi
   have hN' := hN
   rw [hd] at hN'
   have b := hpi hi
   have b1 := hN'.1
   have b2 := hN'.2.1
   have b3 := hN'.2.2.1
   have hh : hits p n (l.drop i) = true := by rw [hd, hits_cons, decide_eq_true ⟨b, c⟩]; rfl
   rw [if_pos hh]
   exact fd_hit row l k i out p (p + n) n q hi (by omega) _ rfl _ (by omega)
 · have hfar : hits p n (l.drop i) = false := by
    by_cases hi : i < l.length
    · have hd := getD_drop l i hi
      have c' : p + n ≤ (l.getD i z94).f0 := by have := fun h => c ⟨hi, h⟩; omega
      rw [hd] at hN ⊢
      exact hits_far p n (x := (l.getD i z94).f0 - 1) ⟨by omega, hN.2⟩ (by omega)
    · rw [List.drop_eq_nil_of_le (by omega)]; rfl
   obtain ⟨hl, ho⟩ := hpre hfar
   have hN3 : ∃ x', p + n ≤ x' + 1 ∧ Nrm x' (l.drop i) := by
    by_cases hi : i < l.length
    · have hd := getD_drop l i hi
      have c' : p + n ≤ (l.getD i z94).f0 := by have := fun h => c ⟨hi, h⟩; omega
      rw [hd] at hN ⊢
      exact ⟨(l.getD i z94).f0 - 1, by omega, by show (l.getD i z94).f0 - 1 < (l.getD i z94).f0; omega, hN.2⟩
    · rw [List.drop_eq_nil_of_le (by omega)]; exact ⟨p + n, by omega, trivial⟩
   obtain ⟨x', hx', hN'⟩ := hN3
   have g1 : q + 1 < row.length := by omega
   have g2 : q + 1 + 1 = row.length := by omega
   have g3 : q + 1 ≤ 100 := by omega
   have g4 : l.length = i + (l.length - i) := by omega
   have g5 : K + 2 * (l.length - i) + 10 ≤ k + 1 := by omega
   have g6 : 0 ≤ p + n ∧ p + n ≤ 16777216 ∧ 0 ≤ p ∧ p ≤ 16777216 ∧ (0 : Int) ≤ 2097152 ∧ (2097152 : Int) ≤ 16777216 := by omega
   have g7 : i < l.length → p + n ≤ (l.getD i z94).f0 := fun h => by have := fun q => c ⟨h, q⟩; omega
   have e : p + n + 2097152 - p = 2097152 + n := by omega
   have e3 := fd3 l p n hp hn hL R K row (q + 1) g2 g3 (hR hl) (l.length - i) (k + 1) i out x' g4 hx' hN' ho hol g5
   have e0 := fd_next row l (k + 1) (q + 1) out (p + n) i g1 _ hrow g6
   simp only [e] at e0
   have w : wrap64 ((q : Int) + 1) = ((q + 1 : Nat) : Int) := by clear hol hk hR g5 g4; rw [wrap_id (by omega) (by omega)]; omega
   rw [if_neg (by rw [hfar]; simp), show k + 4 = (k + 2) + 2 from rfl, fd_out row l (k + 2) i out _ _ _ _ _ _ _ g7, w]
   exact e0.trans e3
theorem fd12 (row : List S154) (hrow : row = [⟨0, 0, p⟩, ⟨2, 0, n⟩, ⟨0, p, 2097152⟩]) (hR : hits p n l = false → ∀ k, K ≤ k → redraftref02_Places.f k (l.map (mv p n)) = some R)
 (k i : Nat) (out : List S94) (x : Int) (h1 : i ≤ l.length) (hx : -1 ≤ x) (hN : Nrm x (l.drop i)) (hpi : i < l.length → p < (l.getD i z94).f1) (hpre : hits p n (l.drop i) = false → hits p n l = false ∧ out ++ (l.drop i).map (mv p n) = l.map (mv p n)) (hol : out.length ≤ i + 1) (hk : K + 2 * l.length + 30 ≤ k) :
 redraftref05_found.l0 k row ctx0 l out p (i : Int) (wrap64 (0 + 1)) = some (if hits p n (l.drop i) = true then ([], 23) else (R, 0)) := by
 obtain ⟨k, rfl⟩ : ∃ m, k = m + 1 := ⟨k - 1, by omega⟩
 have hlen : row.length = 3 := by rw [hrow]; rfl
 have hg1 : row.getD 1 z154 = ⟨2, 0, n⟩ := by rw [hrow]; rfl
 have hg2 : row.getD (1 + 1) z154 = ⟨0, p, 2097152⟩ := by rw [hrow]; rfl
 have hk' : K + 2 * l.length + 20 ≤ k := by omega
 have hq : 1 + 2 = row.length := by omega
 have h1l : 1 < row.length := by omega
 have hb : 0 ≤ p ∧ p ≤ 16777216 ∧ (0 : Int) ≤ 0 ∧ (0 : Int) ≤ 16777216 ∧ 0 ≤ n ∧ n ≤ 16777216 := by omega
 have e2 := fd2 l p n hp hn hL R K hpn row 1 hq (by decide) hg2 hR k i out x h1 hx hN hpi hpre hol hk'
 have e0 := fd_next row l k 1 out p i h1l ⟨2, 0, n⟩ hg1 hb
 have e : p + n - 0 = p + n := by omega
 simp only [e] at e0
 have w : wrap64 ((0 : Int) + 1) = ((1 : Nat) : Int) := by rw [wrap_id (by omega) (by omega)]; rfl
 rw [w]
 exact e0.trans e2
theorem fd1 (row : List S154) (hrow : row = [⟨0, 0, p⟩, ⟨2, 0, n⟩, ⟨0, p, 2097152⟩]) (hR : hits p n l = false → ∀ k, K ≤ k → redraftref02_Places.f k (l.map (mv p n)) = some R) :
 ∀ (d k i : Nat) (out : List S94) (x : Int), l.length = i + d → -1 ≤ x → Nrm x (l.drop i) → (hits p n (l.drop i) = false → hits p n l = false) → out ++ (l.drop i).map (mv p n) = l.map (mv p n) → out.length ≤ i → K + 2 * l.length + 2 * d + 40 ≤ k →
 redraftref05_found.l1 k row ctx0 l out 0 (i : Int) 0 p (i : Int) 0 0 p = some (if hits p n (l.drop i) = true then ([], 23) else (R, 0)) := by
 have next := fd12 l p n hp hn hL R K hpn row hrow hR
 clear hrow hR
 intro d
 induction d with
 | zero =>
  intro k i out x h1 hx hN hpre ho hol hk
  obtain ⟨k, rfl⟩ : ∃ m, k = m + 2 := ⟨k - 2, by omega⟩
  rw [fd_out row l k i out _ _ _ _ _ _ _ (fun h => by omega)]
  exact next k i out x (by omega) hx hN (fun h => by omega) (fun h => ⟨hpre h, ho⟩) (by omega) (by omega)
 | succ d ih =>
  intro k i out x h1 hx hN hpre ho hol hk
  have hi : i < l.length := by omega
  have hd := getD_drop l i hi
  obtain ⟨r, hr⟩ : ∃ r, r = l.getD i z94 := ⟨_, rfl⟩
  rw [← hr] at hd
  have hN' := hN
  rw [hd] at hN'
  obtain ⟨b1, b2, b3, b4⟩ := hN'
  have g5 : l.length ≤ 1048576 := by omega
  have g6 : out.length ≤ 1048576 := by omega
  by_cases c1 : r.f0 < p
  · obtain ⟨k, rfl⟩ : ∃ m, k = m + 4 := ⟨k - 4, by omega⟩
    by_cases c2 : r.f1 ≤ p
    · have hm : mv p n r = ⟨r.f0 + 0 - 0, r.f1 + 0 - 0⟩ := by
       unfold mv
       rw [if_pos c2, show r.f0 + 0 - 0 = r.f0 by omega, show r.f1 + 0 - 0 = r.f1 by omega]
      have hh : hits p n (l.drop i) = hits p n (l.drop (i + 1)) := by
       rw [hd, hits_cons, decide_eq_false (by omega)]; rfl
      have g0 : 0 ≤ (0 : Int) ∧ 0 ≤ r.f0 ∧ r.f0 < r.f1 ∧ r.f1 ≤ 1048576 ∧ r.f0 < p ∧ r.f1 ≤ p ∧ 0 ≤ (0 : Int) ∧ (0 : Int) ≤ 0 := by omega
      have g1 : l.length = (i + 1) + d := by omega
      have g2 : -1 ≤ r.f1 := by omega
      have g3 : (out ++ [(⟨r.f0 + 0 - 0, r.f1 + 0 - 0⟩ : S94)]).length ≤ i + 1 := by simp; omega
      have g4 : K + 2 * l.length + 2 * d + 40 ≤ k + 2 := by omega
      rw [fd_in row l k i out 0 p 0 p 0 hi g5 r hr.symm _ g0 g6, hh]
      exact ih (k + 2) (i + 1) _ r.f1 g1 g2 b4 (by rw [← hh]; exact hpre) (by rw [← ho, ← hm, hd, List.map_cons]; simp) g3 g4
    · have g0 : 0 ≤ (0 : Int) ∧ 0 ≤ r.f0 ∧ r.f0 < r.f1 ∧ r.f1 ≤ 1048576 ∧ r.f0 < p ∧ p < r.f1 ∧ 0 ≤ (0 : Int) ∧ (0 : Int) ≤ 0 := by omega
      have hh : hits p n (l.drop i) = true := by rw [hd, hits_cons, decide_eq_true (by omega)]; rfl
      rw [fd_break row l k i out 0 p 0 p 0 hi g5 r hr.symm _ g0 g6]
      exact next (k + 2) i _ x (by omega) hx hN (fun _ => by rw [← hr]; omega) (fun h => by rw [hh] at h; simp at h) (by simp; omega) (by omega)
  · obtain ⟨k, rfl⟩ : ∃ m, k = m + 2 := ⟨k - 2, by omega⟩
    rw [fd_out row l k i out _ _ _ _ _ _ _ (fun h => by rw [← hr]; omega)]
    exact next k i out x (by omega) hx hN (fun _ => by rw [← hr]; omega) (fun h => ⟨hpre h, ho⟩) (by omega) (by omega)
end
theorem found_back (l : List S94) (p n : Int) (hl : (rngE l).2 = 0) (hp : 0 ≤ p ∧ p ≤ 1048576) (hn : 1 ≤ n ∧ n ≤ 1048576) (hpn : p + n ≤ 1048576) :
 ∃ k, redraftref05_found.f k (ctxWith 2 p n) ctx0 l = some (if hits p n l = true then ([], 23) else (bkS p n l, 0)) := by
 obtain ⟨hlen, hN⟩ := rng_ok hl
 have hpl : ∃ K, hits p n l = false → ∀ k, K ≤ k → redraftref02_Places.f k (l.map (mv p n)) = some (bkS p n l) := by
  cases hh : hits p n l with
  | true => exact ⟨0, fun h => by simp at h⟩
  | false =>
   obtain ⟨K, hK⟩ := places_is (l.map (mv p n)) (wk_mv p n hn.1 hN hh) (by simp; omega)
   exact ⟨K, fun _ => hK⟩
 obtain ⟨K, hK⟩ := hpl
 refine ⟨K + 4 * l.length + 60, ?_⟩
 unfold redraftref05_found.f
 rw [show K + 4 * l.length + 60 = (K + 4 * l.length + 59) + 1 from rfl]
 by_cases h0 : 0 < p
 · have hc : ctxWith 2 p n = [⟨0, 0, p⟩, ⟨2, 0, n⟩, ⟨0, p, 2097152⟩] := by unfold ctxWith; rw [if_pos h0]; rfl
   have e0 := fd_next (ctxWith 2 p n) l (K + 4 * l.length + 59) 0 [] 0 0 (by rw [hc]; simp) ⟨0, 0, p⟩ (by rw [hc]; rfl) (by simp; omega)
   have e1 := fd1 l p n hp hn hlen (bkS p n l) K hpn (ctxWith 2 p n) hc hK l.length (K + 4 * l.length + 59) 0 [] (-1) (by omega) (by omega) (by simpa using hN) (fun h => by simpa using h) (by simp) (by simp) (by omega)
   have e2 : (0 : Int) + p - 0 = p := by omega
   refine e0.trans ?_
   show redraftref05_found.l1 _ _ _ _ _ 0 0 ((0 : Nat) : Int) (0 + p - 0) 0 0 0 p = _
   rw [e2]
   refine e1.trans ?_
   rw [List.drop_zero]
 · have hp0 : p = 0 := by omega
   have hc : ctxWith 2 p n = [⟨2, 0, n⟩, ⟨0, p, 2097152⟩] := by unfold ctxWith; rw [if_neg (by omega)]; rfl
   have e0 := fd_next (ctxWith 2 p n) l (K + 4 * l.length + 59) 0 [] 0 0 (by rw [hc]; simp) ⟨2, 0, n⟩ (by rw [hc]; rfl) (by simp; omega)
   have e1 := fd2 l p n hp hn hlen (bkS p n l) K hpn (ctxWith 2 p n) 0 (by rw [hc]; rfl) (by omega) (by rw [hc]; rfl) hK (K + 4 * l.length + 59) 0 [] (-1) (by omega) (by omega) (by simpa using hN) (fun h => by
    have hd := getD_drop l 0 h
    rw [List.drop_zero] at hd
    rw [hd] at hN
    have := hN.1; have := hN.2.1; omega) (fun h => ⟨by simpa using h, by simp⟩) (by simp) (by omega)
   have e2 : (0 : Int) + n - 0 = p + n := by omega
   refine e0.trans ?_
   show redraftref05_found.l1 _ _ _ _ _ 0 0 ((0 : Nat) : Int) (0 + n - 0) 0 2 0 n = _
   rw [e2]
   rw [show redraftref05_found.l1 (K + 4 * l.length + 59) (ctxWith 2 p n) ctx0 l [] 0 0 ((0 : Nat) : Int) (p + n) 0 2 0 n = redraftref05_found.l1 (K + 4 * l.length + 59) (ctxWith 2 p n) ctx0 l [] p ((0 : Nat) : Int) ((0 : Nat) : Int) (p + n) ((0 : Nat) : Int) 2 0 n by rw [hp0]; rfl]
   refine e1.trans ?_
   rw [List.drop_zero]
end Go.Proofs.YtloccjkcmlkifaaDoor
end

section
/- The document's rows of stretches: a stretch put in, its place, whether it is whole: as plain lists. -/
namespace Go.Proofs.YtloccjkcmlkifaaDoor
open Go.RowKit Go.Proofs.YtloccjkcmlkifaaDoor.PAll Go.Proofs.YtloccjkcmlkifaaDoorW.PrintWords

def Bd (s : S154) : Prop := 0 ≤ s.f1 ∧ s.f1 ≤ s.f2 ∧ s.f2 ≤ 4194304
def wst (who x m : Int) (s : S154) (s0 : Int) : List S154 :=
 if s0 ≤ x ∧ x < s0 + (s.f2 - s.f1) then (if s0 < x then [⟨s.f0, s.f1, s.f1 + x - s0⟩] else []) ++ [⟨who, 0, m⟩, ⟨s.f0, s.f1 + x - s0, s.f2⟩] else [s]
def withL (who x m : Int) : List S154 → Int → List S154
 | [], _ => []
 | s :: t, s0 => wst who x m s s0 ++ withL who x m t (s0 + s.f2 - s.f1)
theorem wst_len (who x m : Int) (s : S154) (s0 : Int) : (wst who x m s s0).length ≤ 3 := by
 unfold wst
 split
 · split <;> simp
 · simp
theorem dropS (row : List S154) (i : Nat) (h : i < row.length) : row.drop i = row.getD i z154 :: row.drop (i + 1) := by
 rw [List.drop_eq_getElem_cons h, List.getD_eq_getElem?_getD, List.getElem?_eq_getElem h]; rfl
theorem with_loop (row : List S154) (who x m : Int) (hx : 0 ≤ x ∧ x ≤ 4194304) (hl : row.length ≤ 100) (hB : ∀ s ∈ row, Bd s) : ∀ (d k i : Nat) (out : List S154) (s0 : Int), row.length = i + d → 0 ≤ s0 → s0 ≤ 4194304 * i → out.length ≤ 3 * i → 2 * d + 1 ≤ k →
 redraftref05_with.l0 k row who x m out s0 (i : Int) = some (out ++ withL who x m (row.drop i) s0) := by
 intro d
 induction d with
 | zero =>
  intro k i out s0 h1 h2 h3 h4 hk
  obtain ⟨k, rfl⟩ : ∃ m, k = m + 1 := ⟨k - 1, by omega⟩
  rw [redraftref05_with.l0, if_neg (by omega), List.drop_eq_nil_of_le (by omega)]
  simp [withL]
 | succ d ih =>
  intro k i out s0 h1 h2 h3 h4 hk
  obtain ⟨k, rfl⟩ : ∃ m, k = m + 2 := ⟨k - 2, by omega⟩
  have hi : i < row.length := by omega
  have hd := dropS row i hi
  have hm : row.getD i z154 ∈ row := by rw [List.getD_eq_getElem?_getD, List.getElem?_eq_getElem hi]; exact List.getElem_mem hi
  obtain ⟨s, hs⟩ : ∃ s, s = row.getD i z154 := ⟨_, rfl⟩
  rw [← hs] at hd hm
  obtain ⟨b1, b2, b3⟩ := hB s hm
  have e1 : rd_T154 row (i : Int) = s := by unfold rd_T154; rw [Int.toNat_natCast, hs]
  have q1 : (i : Int) < (row.length : Int) := by omega
  have q2 : (0 : Int) ≤ (i : Int) := by omega
  have q3 : s0 ≤ 419430400 := by omega
  clear hB hm hs
  have g0 : row.length = (i + 1) + d := by omega
  have g1 : 0 ≤ s0 + (s.f2 - s.f1) := by omega
  have g2 : s0 + (s.f2 - s.f1) ≤ 4194304 * ((i + 1 : Nat) : Int) := by omega
  have g3 : 2 * d + 1 ≤ k := by omega
  have hw := wst_len who x m s s0
  have hfl : out.length + (wst who x m s s0).length ≤ 3 * (i + 1) := by omega
  have ho0 : out.length < 5864062014805 := by omega
  have ho1 : out.length + 1 < 5864062014805 := by omega
  have ho2 : out.length + 1 + 1 < 5864062014805 := by omega
  have e2 : s0 + s.f2 - s.f1 = s0 + (s.f2 - s.f1) := by omega
  obtain ⟨w1, w2, w3, w4⟩ : wrap64 (s.f2 - s.f1) = s.f2 - s.f1 ∧ wrap64 (s0 + (s.f2 - s.f1)) = s0 + (s.f2 - s.f1) ∧ wrap64 ((i : Int) + 1) = ((i + 1 : Nat) : Int) ∧ wrap64 (wrap64 (s.f1 + x) - s0) = s.f1 + x - s0 := by
   clear ih hk h4 hfl hw ho0 ho1 ho2 g0 g3
   refine ⟨wrap_id (by omega) (by omega), wrap_id (by omega) (by omega), by rw [wrap_id (by omega) (by omega)]; omega, by rw [wrap_id (n := s.f1 + x) (by omega) (by omega), wrap_id (by omega) (by omega)]⟩
  rw [hd, show withL who x m (s :: row.drop (i + 1)) s0 = wst who x m s s0 ++ withL who x m (row.drop (i + 1)) (s0 + s.f2 - s.f1) from rfl, e2, ← List.append_assoc]
  have fin : ∀ out', out' = out ++ wst who x m s s0 → redraftref05_with.l0 k row who x m out' (s0 + (s.f2 - s.f1)) ((i + 1 : Nat) : Int) = some (out ++ wst who x m s s0 ++ withL who x m (row.drop (i + 1)) (s0 + (s.f2 - s.f1))) := fun out' e => by
   rw [← e]
   exact ih k (i + 1) out' _ g0 g1 g2 (by rw [e, List.length_append]; exact hfl) g3
  rw [show k + 2 = (k + 1) + 1 from rfl, redraftref05_with.l0, if_pos q1, if_pos q2, e1, w1, w2]
  by_cases c : s0 ≤ x ∧ x < s0 + (s.f2 - s.f1)
  · rw [if_pos (show x ≥ s0 from c.1), decide_eq_true c.2, redraftref05_with.j1, if_pos rfl, w4, w2, w3]
    by_cases c2 : s0 < x
    · rw [if_pos (show x > s0 from c2), if_pos ho0]
      try simp only [Option.bind_some]
      rw [if_pos (by rw [List.length_append]; exact ho1)]
      try simp only [Option.bind_some]
      rw [if_pos (by rw [List.length_append, List.length_append]; exact ho2)]
      exact fin _ (by unfold wst; rw [if_pos c, if_pos c2]; simp)
    · rw [if_neg (show ¬ x > s0 from c2), if_pos ho0]
      try simp only [Option.bind_some]
      rw [if_pos (by rw [List.length_append]; exact ho1)]
      exact fin _ (by unfold wst; rw [if_pos c, if_neg c2]; simp)
  · have hj : redraftref05_with.j1 (k + 1) row who x m out s0 (i : Int) (s.f2 - s.f1) false s.f0 s.f1 s.f2 = some (out ++ wst who x m s s0 ++ withL who x m (row.drop (i + 1)) (s0 + (s.f2 - s.f1))) := by
     rw [redraftref05_with.j1, if_neg (by simp), if_pos ho0, w2, w3]
     exact fin _ (by unfold wst; rw [if_neg c])
    by_cases c1 : s0 ≤ x
    · rw [if_pos (show x ≥ s0 from c1), decide_eq_false (fun h => c ⟨c1, h⟩), hj]
    · rw [if_neg (show ¬ x ≥ s0 from c1), hj]
theorem with_is (row : List S154) (who x m : Int) (hx : 0 ≤ x ∧ x ≤ 4194304) (hl : row.length ≤ 100) (hB : ∀ s ∈ row, Bd s) : redraftref05_with.f (2 * row.length + 1) row who x m = some (withL who x m row 0) := by
 unfold redraftref05_with.f
 exact with_loop row who x m hx hl hB row.length _ 0 [] 0 (by omega) (by omega) (by omega) (by simp) (by omega)
def placeL (who k : Int) : List S154 → Int → Int
 | [], s0 => s0
 | s :: t, s0 => if s.f0 = who ∧ s.f1 ≤ k ∧ k < s.f2 then s0 + k - s.f1 else placeL who k t (s0 + s.f2 - s.f1)
theorem place_is (row : List S154) (who x : Int) (hx : 0 ≤ x ∧ x ≤ 4194304) (hl : row.length ≤ 100) (hB : ∀ s ∈ row, Bd s) : ∀ (d k i : Nat) (s0 : Int), row.length = i + d → 0 ≤ s0 → s0 ≤ 4194304 * i → d + 1 ≤ k →
 redraftref05_place.l0 k row who x s0 (i : Int) = some (placeL who x (row.drop i) s0) := by
 intro d
 induction d with
 | zero =>
  intro k i s0 h1 h2 h3 hk
  obtain ⟨k, rfl⟩ : ∃ m, k = m + 1 := ⟨k - 1, by omega⟩
  rw [redraftref05_place.l0, if_neg (by omega), List.drop_eq_nil_of_le (by omega)]
  rfl
 | succ d ih =>
  intro k i s0 h1 h2 h3 hk
  obtain ⟨k, rfl⟩ : ∃ m, k = m + 1 := ⟨k - 1, by omega⟩
  have hi : i < row.length := by omega
  have hd := dropS row i hi
  have hm : row.getD i z154 ∈ row := by rw [List.getD_eq_getElem?_getD, List.getElem?_eq_getElem hi]; exact List.getElem_mem hi
  obtain ⟨s, hs⟩ : ∃ s, s = row.getD i z154 := ⟨_, rfl⟩
  rw [← hs] at hd hm
  obtain ⟨b1, b2, b3⟩ := hB s hm
  have e1 : rd_T154 row (i : Int) = s := by unfold rd_T154; rw [Int.toNat_natCast, hs]
  have q3 : s0 ≤ 419430400 := by omega
  clear hB hm hs
  have hih := ih k (i + 1) (s0 + s.f2 - s.f1) (by omega) (by omega) (by omega) (by omega)
  have q1 : (i : Int) < (row.length : Int) := by omega
  have q2 : (0 : Int) ≤ (i : Int) := by omega
  obtain ⟨w1, w2, w3⟩ : wrap64 (wrap64 (s0 + s.f2) - s.f1) = s0 + s.f2 - s.f1 ∧ wrap64 (wrap64 (s0 + x) - s.f1) = s0 + x - s.f1 ∧ wrap64 ((i : Int) + 1) = ((i + 1 : Nat) : Int) := by
   clear ih hih hk
   refine ⟨by rw [wrap_id (n := s0 + s.f2) (by omega) (by omega), wrap_id (by omega) (by omega)], by rw [wrap_id (n := s0 + x) (by omega) (by omega), wrap_id (by omega) (by omega)], by rw [wrap_id (by omega) (by omega)]; omega⟩
  rw [redraftref05_place.l0, if_pos q1, if_pos q2, e1, w1, w2, w3, hih, hd]
  rw [show placeL who x (s :: row.drop (i + 1)) s0 = if s.f0 = who ∧ s.f1 ≤ x ∧ x < s.f2 then s0 + x - s.f1 else placeL who x (row.drop (i + 1)) (s0 + s.f2 - s.f1) from rfl]
  by_cases c1 : s.f0 = who
  · rw [if_pos c1]
    by_cases c2 : s.f1 ≤ x
    · rw [if_pos c2]
      by_cases c3 : x < s.f2
      · rw [if_pos c3, if_pos ⟨c1, c2, c3⟩]
      · rw [if_neg c3, if_neg (fun h => c3 h.2.2)]
    · rw [if_neg c2, if_neg (fun h => c2 h.2.1)]
  · rw [if_neg c1, if_neg (fun h => c1 h.1)]
theorem whole_is (row : List S154) (who : Int) (hl : row.length ≤ 100) : ∀ (d k i : Nat) (n : Nat), row.length = i + d → n ≤ i → d + 1 ≤ k →
 redraftref05_whole.l0 k row who (n : Int) (i : Int) = some (decide (n + (row.drop i).countP (fun s => decide (s.f0 = who)) = 1)) := by
 intro d
 induction d with
 | zero =>
  intro k i n h1 h2 hk
  obtain ⟨k, rfl⟩ : ∃ m, k = m + 1 := ⟨k - 1, by omega⟩
  rw [redraftref05_whole.l0, if_neg (by omega), List.drop_eq_nil_of_le (by omega)]
  by_cases c : n = 1
  · subst c; rfl
  · rw [show ((n : Int) == 1) = false from beq_eq_false_iff_ne.mpr (by omega), decide_eq_false (by simpa using c)]
 | succ d ih =>
  intro k i n h1 h2 hk
  obtain ⟨k, rfl⟩ : ∃ m, k = m + 1 := ⟨k - 1, by omega⟩
  have hi : i < row.length := by omega
  have hd := dropS row i hi
  obtain ⟨s, hs⟩ : ∃ s, s = row.getD i z154 := ⟨_, rfl⟩
  rw [← hs] at hd
  have e1 : rd_T154 row (i : Int) = s := by unfold rd_T154; rw [Int.toNat_natCast, hs]
  have q1 : (i : Int) < (row.length : Int) := by omega
  have q2 : (0 : Int) ≤ (i : Int) := by omega
  have i1 := ih k (i + 1) (n + 1) (by omega) (by omega) (by omega)
  have i2 := ih k (i + 1) n (by omega) (by omega) (by omega)
  obtain ⟨w3, w4⟩ : wrap64 ((i : Int) + 1) = ((i + 1 : Nat) : Int) ∧ wrap64 ((n : Int) + 1) = ((n + 1 : Nat) : Int) := by
   clear ih hk i1 i2
   exact ⟨by rw [wrap_id (by omega) (by omega)]; omega, by rw [wrap_id (by omega) (by omega)]; omega⟩
  rw [redraftref05_whole.l0, if_pos q1, if_pos q2, e1, w3, w4, hd, List.countP_cons]
  clear w3 w4
  by_cases c1 : s.f0 = who
  · rw [if_pos c1, i1, decide_eq_true c1, if_pos rfl]
    congr 2
    simp only [eq_iff_iff]
    omega
  · rw [if_neg c1, i2, decide_eq_false c1, if_neg (by simp)]
    rfl
end Go.Proofs.YtloccjkcmlkifaaDoor
end

section
/- An insert put into a row that holds another: whether that one stays whole, and where this one stands without it. -/
namespace Go.Proofs.YtloccjkcmlkifaaDoor
open Go.RowKit Go.Proofs.YtloccjkcmlkifaaDoor.PAll Go.Proofs.YtloccjkcmlkifaaDoorW.PrintWords

def lastS (out : List S154) : S154 := out.getD (out.length - 1) z154
def wo (who : Int) (out : List S154) (s : S154) : List S154 :=
 if s.f0 = who then out else if 0 < out.length ∧ (lastS out).f0 = s.f0 ∧ (lastS out).f2 = s.f1 then out.set (out.length - 1) ⟨(lastS out).f0, (lastS out).f1, s.f2⟩ else out ++ [s]
theorem wo_len (who : Int) (out : List S154) (s : S154) : (wo who out s).length ≤ out.length + 1 := by
 unfold wo
 split
 · omega
 · split <;> simp
theorem without_loop (row : List S154) (who : Int) (hl : row.length ≤ 100) : ∀ (d k i : Nat) (out : List S154), row.length = i + d → out.length ≤ i → d + 1 ≤ k →
 redraftref05_without.l0 k row who out (i : Int) = some ((row.drop i).foldl (wo who) out) := by
 intro d
 induction d with
 | zero =>
  intro k i out h1 h2 hk
  obtain ⟨k, rfl⟩ : ∃ m, k = m + 1 := ⟨k - 1, by omega⟩
  rw [redraftref05_without.l0, if_neg (by omega), List.drop_eq_nil_of_le (by omega)]
  rfl
 | succ d ih =>
  intro k i out h1 h2 hk
  obtain ⟨k, rfl⟩ : ∃ m, k = m + 1 := ⟨k - 1, by omega⟩
  have hi : i < row.length := by omega
  have hd := dropS row i hi
  obtain ⟨s, hs⟩ : ∃ s, s = row.getD i z154 := ⟨_, rfl⟩
  rw [← hs] at hd
  have e1 : rd_T154 row (i : Int) = s := by unfold rd_T154; rw [Int.toNat_natCast, hs]
  have q1 : (i : Int) < (row.length : Int) := by omega
  have q2 : (0 : Int) ≤ (i : Int) := by omega
  have ho0 : out.length < 5864062014805 := by omega
  have hwl := wo_len who out s
  have hih := ih k (i + 1) (wo who out s) (by omega) (by omega) (by omega)
  have e2 : rd_T154 out ((out.length - 1 : Nat) : Int) = lastS out := by unfold rd_T154 lastS; rw [Int.toNat_natCast]
  have hpos : 0 < out.length → (out.length : Int) > 0 ∧ (0 : Int) ≤ ((out.length - 1 : Nat) : Int) ∧ ((out.length - 1 : Nat) : Int) < (out.length : Int) := fun h => by omega
  have hneg : ¬ 0 < out.length → ¬ (out.length : Int) > 0 := fun h => by omega
  have w3 : wrap64 ((i : Int) + 1) = ((i + 1 : Nat) : Int) := by clear ih hih hk hpos hneg; rw [wrap_id (by omega) (by omega)]; omega
  rw [hd, List.foldl_cons, ← hih, redraftref05_without.l0, if_pos q1, if_pos q2, e1, w3]
  unfold wo
  by_cases c0 : s.f0 = who
  · rw [if_pos c0, if_pos c0]
  rw [if_neg c0, if_neg c0]
  by_cases c1 : 0 < out.length
  · obtain ⟨r1, r2, r3⟩ := hpos c1
    have w1 : wrap64 ((out.length : Int) - 1) = ((out.length - 1 : Nat) : Int) := by clear ih hih hk w3 hpos hneg r2 r3; rw [wrap_id (by omega) (by omega)]; omega
    rw [if_pos r1, w1, if_pos r2, if_pos r3, e2, Int.toNat_natCast]
    by_cases c2 : (lastS out).f0 = s.f0
    · rw [if_pos c2]
      by_cases c3 : (lastS out).f2 = s.f1
      · rw [if_pos c3, if_pos ⟨c1, c2, c3⟩]
      · rw [if_neg c3, if_pos ho0, if_neg (fun h => c3 h.2.2)]
    · rw [if_neg c2, if_pos ho0, if_neg (fun h => c2 h.2.1)]
  · rw [if_neg (hneg c1), if_pos ho0, if_neg (fun h => c1 h.1)]
theorem without_is (row : List S154) (who : Int) (hl : row.length ≤ 100) : redraftref05_without.f (row.length + 1) row who = some (row.foldl (wo who) []) := by
 unfold redraftref05_without.f
 have := without_loop row who hl row.length (row.length + 1) 0 [] (by omega) (by simp) (by omega)
 simpa using this
theorem wst_no {who x m w f t s0 : Int} (h : x < s0 ∨ s0 + (t - f) ≤ x) : wst who x m ⟨w, f, t⟩ s0 = [⟨w, f, t⟩] := if_neg (by rintro ⟨h1, h2⟩; simp only at h2; omega)
theorem wst_at {who x m w f t s0 : Int} (h : x = s0) (h2 : f < t) : wst who x m ⟨w, f, t⟩ s0 = [⟨who, 0, m⟩, ⟨w, f, t⟩] := by
 unfold wst
 rw [if_pos ⟨by omega, by simp only; omega⟩, if_neg (by omega), show f + x - s0 = f by omega]
 rfl
theorem wst_in {who x m w f t s0 : Int} (h : s0 < x) (h2 : x < s0 + (t - f)) : wst who x m ⟨w, f, t⟩ s0 = [⟨w, f, f + x - s0⟩, ⟨who, 0, m⟩, ⟨w, f + x - s0, t⟩] := by
 unfold wst
 rw [if_pos ⟨by omega, by simp only; omega⟩, if_pos h]
 rfl
def Tells (L : List S154) (cnt : Nat) (at_ : Int) : Prop := L.length ≤ 8 ∧ L.countP (fun s => decide (s.f0 = 2)) = cnt ∧ (cnt = 1 → placeL 1 0 (L.foldl (wo 2) []) 0 = at_ ∧ ((L.foldl (wo 2) []).length ≤ 8 ∧ ∀ s ∈ L.foldl (wo 2) [], Bd s))
theorem rows_tell (p n x m : Int) (hp : 0 ≤ p ∧ p ≤ 1048576) (hn : 1 ≤ n ∧ n ≤ 1048576) (hx : 0 ≤ x ∧ x ≤ 1048576) (hm : 1 ≤ m ∧ m ≤ 1048576) (hpn : p + n ≤ 1048576) :
 (x ≤ p → Tells (withL 1 x m (ctxWith 2 p n) 0) 1 x) ∧ (p < x → x < p + n → Tells (withL 1 x m (ctxWith 2 p n) 0) 2 0) ∧ (p + n ≤ x → Tells (withL 1 x m (ctxWith 2 p n) 0) 1 (x - n)) := by
 have hm0 : (0 : Int) < m := by omega
 by_cases h0 : p > 0
 · have hc : ctxWith 2 p n = [⟨0, 0, p⟩, ⟨2, 0, n⟩, ⟨0, p, 2097152⟩] := by unfold ctxWith; rw [if_pos h0]; rfl
   have hw : withL 1 x m (ctxWith 2 p n) 0 = wst 1 x m ⟨0, 0, p⟩ 0 ++ (wst 1 x m ⟨2, 0, n⟩ p ++ (wst 1 x m ⟨0, p, 2097152⟩ (p + n) ++ [])) := by
    rw [hc]
    show wst 1 x m ⟨0, 0, p⟩ 0 ++ (wst 1 x m ⟨2, 0, n⟩ (0 + p - 0) ++ (wst 1 x m ⟨0, p, 2097152⟩ (0 + p - 0 + n - 0) ++ [])) = _
    rw [show (0 : Int) + p - 0 = p by omega, show p + n - 0 = p + n by omega]
   rw [hw]
   refine ⟨fun h => ?_, fun h1 h2 => ?_, fun h => ?_⟩
   · by_cases e : x = p
     · rw [wst_no (.inr (by omega)), wst_at e (by omega), wst_no (.inl (by omega))]
       refine ⟨by simp, by simp, fun _ => ?_⟩
       have hf : (([⟨0, 0, p⟩] : List S154) ++ (([⟨1, 0, m⟩, ⟨2, 0, n⟩] : List S154) ++ (([⟨0, p, 2097152⟩] : List S154) ++ []))).foldl (wo 2) [] = [⟨0, 0, p⟩, ⟨1, 0, m⟩, ⟨0, p, 2097152⟩] := by simp [wo, lastS]
       rw [hf]
       refine ⟨by simp [placeL, hm0]; omega, by simp, ?_⟩
       simp only [List.mem_cons, List.not_mem_nil, or_false]
       rintro s (rfl | rfl | rfl) <;> exact ⟨by simp only; omega, by simp only; omega, by simp only; omega⟩
     · by_cases e0 : x = 0
       · rw [wst_at e0 (by omega), wst_no (.inl (by omega)), wst_no (.inl (by omega))]
         refine ⟨by simp, by simp, fun _ => ?_⟩
         have hf : (([⟨1, 0, m⟩, ⟨0, 0, p⟩] : List S154) ++ (([⟨2, 0, n⟩] : List S154) ++ (([⟨0, p, 2097152⟩] : List S154) ++ []))).foldl (wo 2) [] = [⟨1, 0, m⟩, ⟨0, 0, 2097152⟩] := by simp [wo, lastS]
         rw [hf]
         refine ⟨by simp [placeL, hm0]; omega, by simp, ?_⟩
         simp only [List.mem_cons, List.not_mem_nil, or_false]
         rintro s (rfl | rfl) <;> exact ⟨by simp only; omega, by simp only; omega, by simp only; omega⟩
       · rw [wst_in (by omega) (by omega), wst_no (.inl (by omega)), wst_no (.inl (by omega)), show (0 : Int) + x - 0 = x by omega]
         refine ⟨by simp, by simp, fun _ => ?_⟩
         have hf : (([⟨0, 0, x⟩, ⟨1, 0, m⟩, ⟨0, x, p⟩] : List S154) ++ (([⟨2, 0, n⟩] : List S154) ++ (([⟨0, p, 2097152⟩] : List S154) ++ []))).foldl (wo 2) [] = [⟨0, 0, x⟩, ⟨1, 0, m⟩, ⟨0, x, 2097152⟩] := by simp [wo, lastS]
         rw [hf]
         refine ⟨by simp [placeL, hm0], by simp, ?_⟩
         simp only [List.mem_cons, List.not_mem_nil, or_false]
         rintro s (rfl | rfl | rfl) <;> exact ⟨by simp only; omega, by simp only; omega, by simp only; omega⟩
   · rw [wst_no (.inr (by omega)), wst_in h1 (by omega), wst_no (.inl (by omega))]
     exact ⟨by simp, by simp, fun h => absurd h (by decide)⟩
   · by_cases e : x = p + n
     · rw [wst_no (.inr (by omega)), wst_no (.inr (by omega)), wst_at e (by omega)]
       refine ⟨by simp, by simp, fun _ => ?_⟩
       have hf : (([⟨0, 0, p⟩] : List S154) ++ (([⟨2, 0, n⟩] : List S154) ++ (([⟨1, 0, m⟩, ⟨0, p, 2097152⟩] : List S154) ++ []))).foldl (wo 2) [] = [⟨0, 0, p⟩, ⟨1, 0, m⟩, ⟨0, p, 2097152⟩] := by simp [wo, lastS]
       rw [hf]
       refine ⟨by simp [placeL, hm0]; omega, by simp, ?_⟩
       simp only [List.mem_cons, List.not_mem_nil, or_false]
       rintro s (rfl | rfl | rfl) <;> exact ⟨by simp only; omega, by simp only; omega, by simp only; omega⟩
     · rw [wst_no (.inr (by omega)), wst_no (.inr (by omega)), wst_in (by omega) (by omega), show p + x - (p + n) = x - n by omega]
       refine ⟨by simp, by simp, fun _ => ?_⟩
       have hf : (([⟨0, 0, p⟩] : List S154) ++ (([⟨2, 0, n⟩] : List S154) ++ (([⟨0, p, x - n⟩, ⟨1, 0, m⟩, ⟨0, x - n, 2097152⟩] : List S154) ++ []))).foldl (wo 2) [] = [⟨0, 0, x - n⟩, ⟨1, 0, m⟩, ⟨0, x - n, 2097152⟩] := by simp [wo, lastS]
       rw [hf]
       refine ⟨by simp [placeL, hm0], by simp, ?_⟩
       simp only [List.mem_cons, List.not_mem_nil, or_false]
       rintro s (rfl | rfl | rfl) <;> exact ⟨by simp only; omega, by simp only; omega, by simp only; omega⟩
 · have hp0 : p = 0 := by omega
   subst hp0
   have hc : ctxWith 2 0 n = [⟨2, 0, n⟩, ⟨0, 0, 2097152⟩] := rfl
   have hw : withL 1 x m (ctxWith 2 0 n) 0 = wst 1 x m ⟨2, 0, n⟩ 0 ++ (wst 1 x m ⟨0, 0, 2097152⟩ n ++ []) := by
    rw [hc]
    show wst 1 x m ⟨2, 0, n⟩ 0 ++ (wst 1 x m ⟨0, 0, 2097152⟩ (0 + n - 0) ++ []) = _
    rw [show (0 : Int) + n - 0 = n by omega]
   rw [hw]
   refine ⟨fun h => ?_, fun h1 h2 => ?_, fun h => ?_⟩
   · rw [wst_at (by omega) (by omega), wst_no (.inl (by omega))]
     refine ⟨by simp, by simp, fun _ => ?_⟩
     have hf : (([⟨1, 0, m⟩, ⟨2, 0, n⟩] : List S154) ++ (([⟨0, 0, 2097152⟩] : List S154) ++ [])).foldl (wo 2) [] = [⟨1, 0, m⟩, ⟨0, 0, 2097152⟩] := by simp [wo, lastS]
     rw [hf]
     refine ⟨by simp [placeL, hm0]; omega, by simp, ?_⟩
     simp only [List.mem_cons, List.not_mem_nil, or_false]
     rintro s (rfl | rfl) <;> exact ⟨by simp only; omega, by simp only; omega, by simp only; omega⟩
   · rw [wst_in h1 (by omega), wst_no (.inl (by omega))]
     exact ⟨by simp, by simp, fun h => absurd h (by decide)⟩
   · by_cases e : x = n
     · rw [wst_no (.inr (by omega)), wst_at e (by omega)]
       refine ⟨by simp, by simp, fun _ => ?_⟩
       have hf : (([⟨2, 0, n⟩] : List S154) ++ (([⟨1, 0, m⟩, ⟨0, 0, 2097152⟩] : List S154) ++ [])).foldl (wo 2) [] = [⟨1, 0, m⟩, ⟨0, 0, 2097152⟩] := by simp [wo, lastS]
       rw [hf]
       refine ⟨by simp [placeL, hm0]; omega, by simp, ?_⟩
       simp only [List.mem_cons, List.not_mem_nil, or_false]
       rintro s (rfl | rfl) <;> exact ⟨by simp only; omega, by simp only; omega, by simp only; omega⟩
     · rw [wst_no (.inr (by omega)), wst_in (by omega) (by omega), show (0 : Int) + x - n = x - n by omega]
       refine ⟨by simp, by simp, fun _ => ?_⟩
       have hf : (([⟨2, 0, n⟩] : List S154) ++ (([⟨0, 0, x - n⟩, ⟨1, 0, m⟩, ⟨0, x - n, 2097152⟩] : List S154) ++ [])).foldl (wo 2) [] = [⟨0, 0, x - n⟩, ⟨1, 0, m⟩, ⟨0, x - n, 2097152⟩] := by simp [wo, lastS]
       rw [hf]
       refine ⟨by simp [placeL, hm0], by simp, ?_⟩
       simp only [List.mem_cons, List.not_mem_nil, or_false]
       rintro s (rfl | rfl | rfl) <;> exact ⟨by simp only; omega, by simp only; omega, by simp only; omega⟩
end Go.Proofs.YtloccjkcmlkifaaDoor
end

section
/- How long an answer's ranges may be. -/
namespace Go.Proofs.YtloccjkcmlkifaaDoor
open Go.RowKit Go.Proofs.YtloccjkcmlkifaaDoor.PAll Go.Proofs.YtloccjkcmlkifaaDoorW.PrintWords

theorem fold_jn_len : ∀ (l out : List S94), (l.foldl jn out).length ≤ out.length + l.length
 | [], _ => by simp
 | r :: t, out => by
  rw [List.foldl_cons, List.length_cons]
  have := fold_jn_len t (jn out r)
  have := jn_len out r
  omega
theorem move_len (a : S41) (p : Int) : (moveE a p).1.f3.length ≤ 1048576 := by
 unfold moveE; split
 · show z41.f3.length ≤ _; exact Nat.zero_le _
 · exact Nat.zero_le _
theorem inc_len (a b : S41) (e : Bool) (h : a.f3.length ≤ 1048576) : (incE a b e).1.f3.length ≤ 1048576 := by
 unfold incE incP
 split
 · exact Nat.zero_le _
 · split
   · exact h
   · split
     · split
       · exact move_len _ _
       · exact h
     · split
       · unfold rangedE; split
         · show (thrE a.f3 b.f1 (wid b)).1.length ≤ 1048576
           unfold thrE bnd
           split
           · exact Nat.zero_le _
           · split
             · exact Nat.zero_le _
             · show (thrS b.f1 (wid b) a.f3).length ≤ _; omega
         · exact Nat.zero_le _
       · exact h
theorem exc_len (a b : S41) (h : a.f3.length ≤ 1048576) : (excE a b).1.f3.length ≤ 1048576 := by
 unfold excE
 split
 · exact Nat.zero_le _
 · split
   · split
     · exact Nat.zero_le _
     · exact h
   · split
     · exact h
     · split
       · split
         · exact h
         · split
           · exact move_len _ _
           · exact Nat.zero_le _
       · split
         · exact Nat.zero_le _
         · show (bkS b.f1 (wid b) a.f3).length ≤ _
           have := fold_jn_len (a.f3.map (mv b.f1 (wid b))) []
           simp at this
           unfold bkS; omega
theorem tr_len (a b : S41) (ha : a.f3.length ≤ 1048576) (hb : b.f3.length ≤ 1048576) : (trE a b).1.f3.length ≤ 1048576 ∧ (trE a b).2.1.f3.length ≤ 1048576 := by
 have h1 := exc_len b a hb
 have h2 := inc_len a b false ha
 have h3 := move_len a (a.f1 + wid b)
 unfold trE
 split
 · exact ⟨Nat.zero_le _, Nat.zero_le _⟩
 · split
   · exact ⟨Nat.zero_le _, Nat.zero_le _⟩
   · split
     · split
       · exact ⟨Nat.zero_le _, Nat.zero_le _⟩
       · exact ⟨h1, h3⟩
     · split
       · split
         · exact ⟨Nat.zero_le _, Nat.zero_le _⟩
         · exact ⟨h1, h2⟩
       · exact ⟨h1, ha⟩
theorem wrap2_len {a b : S41} {r : S41 × S41 × Int} (h : r.1.f3.length ≤ 1048576 ∧ r.2.1.f3.length ≤ 1048576) : (wrap2 a b r).1.f3.length ≤ 4611686018427387904 ∧ (wrap2 a b r).2.1.f3.length ≤ 4611686018427387904 := by
 unfold wrap2
 split
 · omega
 · exact ⟨Nat.zero_le _, Nat.zero_le _⟩
end Go.Proofs.YtloccjkcmlkifaaDoor
end

section
/- The document's exclude answers as the program's. -/
namespace Go.Proofs.YtloccjkcmlkifaaDoor
open Go.RowKit Go.Proofs.YtloccjkcmlkifaaDoor.PAll Go.Proofs.YtloccjkcmlkifaaDoorW.PrintWords Go.Proofs.YtloccjkcmlkifaaDoorW.PrintLast

theorem fold_jn_hi (B : Int) : ∀ (l out : List S94), (∀ x ∈ out, x.f1 ≤ B) → (∀ x ∈ l, x.f1 ≤ B) → ∀ x ∈ l.foldl jn out, x.f1 ≤ B
 | [], _, h, _ => h
 | r :: t, out, h, hl => by
  rw [List.foldl_cons]
  refine fold_jn_hi B t (jn out r) (fun x hx => ?_) (fun x hx => hl x (by simp [hx]))
  have hr := hl r (by simp)
  unfold jn at hx
  split at hx
  · rcases List.mem_or_eq_of_mem_set hx with hx | rfl
    · exact h x hx
    · exact hr
  · rcases List.mem_append.1 hx with hx | hx
    · exact h x hx
    · obtain rfl : x = r := by simpa using hx
      exact hr
theorem nrm_hi : ∀ {l : List S94} {x : Int}, Nrm x l → ∀ r ∈ l, r.f1 ≤ 1048576
 | _ :: _, _, h, r, hr => by
  rcases List.mem_cons.1 hr with rfl | hr
  · exact h.2.2.1
  · exact nrm_hi h.2.2.2 r hr
theorem cov_bk {a : S41} (p n : Int) (hl : (rngE a.f3).2 = 0) (hn : 1 ≤ n) : covE a (bkS p n a.f3) = (⟨a.f0, a.f1, a.f2, bkS p n a.f3, a.f4, a.f5⟩, 0) := by
 obtain ⟨hlen, hN⟩ := rng_ok hl
 have h1 : (bkS p n a.f3).length ≤ 32768 := by
  have := fold_jn_len (a.f3.map (mv p n)) []
  simp at this
  unfold bkS; omega
 have h2 : ∀ x ∈ bkS p n a.f3, x.f1 ≤ 1048576 := fold_jn_hi 1048576 _ [] (by simp) (fun x hx => by
  obtain ⟨r, hr, rfl⟩ := List.mem_map.1 hx
  have := nrm_hi hN r hr
  unfold mv; split
  · exact this
  · show r.f1 - n ≤ 1048576; omega)
 unfold covE
 rw [if_neg (show ¬ (0 < (bkS p n a.f3).length ∧ 1048576 < lastHi (bkS p n a.f3)) from fun ⟨q1, q2⟩ => by
  have hm : (bkS p n a.f3).getD ((bkS p n a.f3).length - 1) z94 ∈ bkS p n a.f3 := by
   rw [List.getD_eq_getElem?_getD, List.getElem?_eq_getElem (by omega)]; exact List.getElem_mem _
  have := h2 _ hm
  unfold lastHi at q2; omega), if_neg (by omega)]
theorem whole_any (row : List S154) (vr : Value) (who : Int) (r : Bool) (w : World) (hl : row.length ≤ 100) (hr : RowC w vr row) (h : decide (row.countP (fun s => decide (s.f0 = who)) = 1) = r) :
 Calls Tryd.prog 112 #[vr, .int .i64 who] w fun e w' => e = .returned (.bool r) ∧ Below w.heap.size w w' := by
 obtain ⟨A, c, rfl, h1, h2⟩ := hr
 refine (redraftref05_whole.calls (row.length + 1) A c row who r w h2 h1 ?_).mono fun e w' ⟨he, hb⟩ => ⟨he, hb.below⟩
 unfold redraftref05_whole.f
 have := whole_is row who hl row.length (row.length + 1) 0 0 (by omega) (by omega) (by omega)
 rw [← h]
 simpa using this
theorem without_any (row : List S154) (vr : Value) (who : Int) (w : World) (hl : row.length ≤ 100) (hr : RowC w vr row) :
 Calls Tryd.prog 113 #[vr, .int .i64 who] w fun e w' => ∃ v, e = .returned v ∧ Kd.R k154 154 w' w.heap.size (fun _ => True) v (row.foldl (wo who) []) ∧ Below w.heap.size w w' := by
 obtain ⟨A, c, rfl, h1, h2⟩ := hr
 exact redraftref05_without.calls (row.length + 1) A c row who _ w h2 h1 (without_is row who hl)
attribute [local go_sem high] eqA35 idx35_0 idx35_1
set_option maxRecDepth 100000 in
set_option maxHeartbeats 8000000 in
theorem excE_ref (a b : S41) (va vb : Value) (w : World) (ha : OpC w va a) (hb : OpC w vb b) (ga : Good a) (gb : Good b) :
 Calls Tryd.prog 97 #[.agg (opA a va), .agg (opA b vb)] w (RetOp w (excE a b)) := by
 obtain ⟨A, c, rfl, h1, h2⟩ := ha
 obtain ⟨B, d, rfl, h3, h4⟩ := hb
 have S := Aside0.mk (St.init w (F := fun _ => True) (fun _ _ => trivial))
 have H1 := Aside0.mk h1; have H2 := Aside0.mk h2
 have HA := Aside0.mk (opC_mk h1 h2); have HB := Aside0.mk (opC_mk h3 h4)
 have HF := Aside0.mk (show fineOp a ∧ fineOp b ∧ ownE a = 0 ∧ ownE b = 0 from ⟨ga.fine, gb.fine, ga.own, gb.own⟩)
 have HGA := Aside0.mk ga; have HGB := Aside0.mk gb
 have hsta := (own_ok ga.own).2.2.2.2.2.2
 obtain ⟨tg, htg⟩ : ∃ tg, decide (a.f4.f0 = b.f0.f0.f0 ∧ a.f4.f1 = b.f0.f0.f1 ∧ (a.f4.f0 ≠ 0 ∨ a.f4.f1 ≠ 0)) = tg := ⟨_, rfl⟩
 have HTG := Aside0.mk htg
 have hkind := ga.kind
 clear h1 h2 h3 h4 ga gb
 unfold excE
 by_cases hcl : clashB a b = true
 · rw [if_pos hcl]
   have HC := Aside0.mk hcl
   clear hcl hsta htg hkind
   go_enter Tryd.func97, Tryd.ntmps97
   go_wp2_with (first | ((with_reducible refine gate_box rfl ?_); refine ev_box S ?_; clear S; intro _ _ S) | ((with_reducible refine gate_new rfl ?_); refine ev_new S 41 zA ?_; clear S; intro _ _ S) | ((with_reducible refine gate_load rfl ?_); first | refine ev_load S ?_ | refine ev_fld S ?_) | ((with_reducible refine gate_st rfl ?_); refine ev_store S ?_; clear S; intro _ S) | (go_at_call 108; (with_reducible refine (isC_any a b _ _ HC.out).mono ?_); rintro e w7 ⟨rfl, hb⟩; replace S := Aside0.mk (S.out.step hb); clear hb))
   exact bodyPost_ret (results_ct rfl _ _ _ 41 zA (0, 0) _ rfl (S.out.at_ 0 rfl) Tryd.underlying41 rfl (by kernel_rfl)) rfl ⟨.slice none 0 0, rfl, opR_nil _ _, S.out.below⟩
 rw [if_neg hcl]
 have HC : Aside0 (clashB a b = false) := ⟨by simpa using hcl⟩
 clear hcl
 by_cases k4 : a.f0.f1 = 4
 · rw [if_pos k4]
   have k4' : (a.f0.f1 == 4) = true := beq_iff_eq.mpr k4
   have hs := hsta k4
   have hnz : a.f4.f0 ≠ 0 := by
    intro hz
    unfold staE isID at hs
    rw [if_neg (by rintro ⟨q, _⟩; have := of_decide_eq_true q; omega)] at hs
    exact absurd hs (by decide)
   have hat : aimB a b = tg := by
    rw [← htg]
    unfold aimB
    by_cases p1 : a.f4.f0 = b.f0.f0.f0 <;> by_cases p2 : a.f4.f1 = b.f0.f0.f1 <;> simp [p1, p2]
    rw [← p1]; exact .inl hnz
   rw [hat]
   clear hsta htg hkind k4 hs hnz hat
   cases tg with
   | true =>
    rw [if_pos rfl]
    go_enter Tryd.func97, Tryd.ntmps97
    go_wp2_with (first | ((with_reducible refine gate_box rfl ?_); refine ev_box S ?_; clear S; intro _ _ S) | ((with_reducible refine gate_new rfl ?_); refine ev_new S 41 zA ?_; clear S; intro _ _ S) | ((with_reducible refine gate_load rfl ?_); first | refine ev_load S ?_ | refine ev_fld S ?_) | ((with_reducible refine gate_st rfl ?_); refine ev_store S ?_; clear S; intro _ S) | (go_at_call 108; (with_reducible refine (isC_any a b _ _ HC.out).mono ?_); rintro e w7 ⟨rfl, hb⟩; replace S := Aside0.mk (S.out.step hb); clear hb) | (go_at_call 108; (with_reducible refine (is_any a.f4.f0 a.f4.f1 b.f0.f0.f0 b.f0.f0.f1 _ _ HTG.out).mono ?_); rintro e w7 ⟨rfl, hb⟩; replace S := Aside0.mk (S.out.step hb); clear hb))
    exact bodyPost_ret (results_ct rfl _ _ _ 41 zA (0, 0) _ rfl (S.out.at_ 0 rfl) Tryd.underlying41 rfl (by kernel_rfl)) rfl ⟨.slice none 0 0, rfl, opR_nil _ _, S.out.below⟩
   | false =>
    rw [if_neg (by simp)]
    by_cases hk : b.f0.f1 = 1
    · have hk' : (b.f0.f1 != 1) = false := bne_eq_false_iff_eq.mpr hk
      clear hk
      go_enter Tryd.func97, Tryd.ntmps97
      go_wp2_with (first | ((with_reducible refine gate_box rfl ?_); refine ev_box S ?_; clear S; intro _ _ S) | ((with_reducible refine gate_new rfl ?_); refine ev_new S 41 zA ?_; clear S; intro _ _ S) | ((with_reducible refine gate_load rfl ?_); first | refine ev_load S ?_ | refine ev_fld S ?_) | ((with_reducible refine gate_st rfl ?_); refine ev_store S ?_; clear S; intro _ S) | (go_at_call 108; (with_reducible refine (isC_any a b _ _ HC.out).mono ?_); rintro e w7 ⟨rfl, hb⟩; replace S := Aside0.mk (S.out.step hb); clear hb) | (go_at_call 108; (with_reducible refine (is_any a.f4.f0 a.f4.f1 b.f0.f0.f0 b.f0.f0.f1 _ _ HTG.out).mono ?_); rintro e w7 ⟨rfl, hb⟩; replace S := Aside0.mk (S.out.step hb); clear hb) | (go_at_call 22; (with_reducible refine (rcopy_any a _ _ (HA.out.below S.out.below) HF.out.1).mono ?_); rintro e w7 ⟨v, rfl, hR, hb⟩; obtain ⟨Ao, co, rfl⟩ := hR.slice; replace S := Aside0.mk (S.out.addOp hb hR); clear hb hR))
      exact bodyPost_ret (results_ct rfl _ _ _ 41 _ (0, 0) _ rfl (S.out.at_ 0 rfl) Tryd.underlying41 rfl (by kernel_rfl)) rfl ⟨_, rfl, S.out.now.2, S.out.below⟩
    · have hk' : (b.f0.f1 != 1) = true := bne_iff_ne.mpr hk
      clear hk
      go_enter Tryd.func97, Tryd.ntmps97
      go_wp2_with (first | ((with_reducible refine gate_box rfl ?_); refine ev_box S ?_; clear S; intro _ _ S) | ((with_reducible refine gate_new rfl ?_); refine ev_new S 41 zA ?_; clear S; intro _ _ S) | ((with_reducible refine gate_load rfl ?_); first | refine ev_load S ?_ | refine ev_fld S ?_) | ((with_reducible refine gate_st rfl ?_); refine ev_store S ?_; clear S; intro _ S) | (go_at_call 108; (with_reducible refine (isC_any a b _ _ HC.out).mono ?_); rintro e w7 ⟨rfl, hb⟩; replace S := Aside0.mk (S.out.step hb); clear hb) | (go_at_call 108; (with_reducible refine (is_any a.f4.f0 a.f4.f1 b.f0.f0.f0 b.f0.f0.f1 _ _ HTG.out).mono ?_); rintro e w7 ⟨rfl, hb⟩; replace S := Aside0.mk (S.out.step hb); clear hb) | (go_at_call 22; (with_reducible refine (rcopy_any a _ _ (HA.out.below S.out.below) HF.out.1).mono ?_); rintro e w7 ⟨v, rfl, hR, hb⟩; obtain ⟨Ao, co, rfl⟩ := hR.slice; replace S := Aside0.mk (S.out.addOp hb hR); clear hb hR))
      exact bodyPost_ret (results_ct rfl _ _ _ 41 _ (0, 0) _ rfl (S.out.at_ 0 rfl) Tryd.underlying41 rfl (by kernel_rfl)) rfl ⟨_, rfl, S.out.now.2, S.out.below⟩
 rw [if_neg k4]
 have k4' : (a.f0.f1 == 4) = false := beq_eq_false_iff_ne.mpr k4
 clear hsta htg
 by_cases hk : b.f0.f1 = 1
 case neg =>
  rw [if_pos hk]
  have hk' : (b.f0.f1 != 1) = true := bne_iff_ne.mpr hk
  clear hk hkind k4
  go_enter Tryd.func97, Tryd.ntmps97
  go_wp2_with (first | ((with_reducible refine gate_box rfl ?_); refine ev_box S ?_; clear S; intro _ _ S) | ((with_reducible refine gate_new rfl ?_); refine ev_new S 41 zA ?_; clear S; intro _ _ S) | ((with_reducible refine gate_load rfl ?_); first | refine ev_load S ?_ | refine ev_fld S ?_) | ((with_reducible refine gate_st rfl ?_); refine ev_store S ?_; clear S; intro _ S) | (go_at_call 108; (with_reducible refine (isC_any a b _ _ HC.out).mono ?_); rintro e w7 ⟨rfl, hb⟩; replace S := Aside0.mk (S.out.step hb); clear hb) | (go_at_call 108; (with_reducible refine (is_any a.f4.f0 a.f4.f1 b.f0.f0.f0 b.f0.f0.f1 _ _ HTG.out).mono ?_); rintro e w7 ⟨rfl, hb⟩; replace S := Aside0.mk (S.out.step hb); clear hb) | (go_at_call 22; (with_reducible refine (rcopy_any a _ _ (HA.out.below S.out.below) HF.out.1).mono ?_); rintro e w7 ⟨v, rfl, hR, hb⟩; obtain ⟨Ao, co, rfl⟩ := hR.slice; replace S := Aside0.mk (S.out.addOp hb hR); clear hb hR))
  exact bodyPost_ret (results_ct rfl _ _ _ 41 _ (0, 0) _ rfl (S.out.at_ 0 rfl) Tryd.underlying41 rfl (by kernel_rfl)) rfl ⟨_, rfl, S.out.now.2, S.out.below⟩
 rw [if_neg (show ¬ b.f0.f1 ≠ 1 from fun h => h hk)]
 have hk' : (b.f0.f1 != 1) = false := bne_eq_false_iff_eq.mpr hk
 have hbw := HGB.out.wid1 hk
 have HW := Aside0.mk (with_ctx 0 2 b.f1 (wid b) hbw.2.2.1 (by omega))
 by_cases k1 : a.f0.f1 = 1
 · rw [if_pos k1]
   have k1' : (a.f0.f1 != 1) = false := bne_eq_false_iff_eq.mpr k1
   have haw := HGA.out.wid1 k1
   have h3 := HGA.out.noRanges (.inl k1)
   have hmv := HGA.out.move0 k1
   have hrt := rows_tell b.f1 (wid b) a.f1 (wid a) ⟨hbw.2.2.1, by omega⟩ ⟨hbw.1, by omega⟩ ⟨haw.2.2.1, by omega⟩ ⟨haw.1, by omega⟩ hbw.2.2.2
   have hcl : (ctxWith 2 b.f1 (wid b)).length ≤ 3 ∧ ∀ s ∈ ctxWith 2 b.f1 (wid b), Bd s := by
    unfold ctxWith
    by_cases hp : b.f1 > 0
    · rw [if_pos hp]
      refine ⟨by simp, ?_⟩
      simp only [List.cons_append, List.nil_append, List.mem_cons, List.not_mem_nil, or_false]
      rintro s (rfl | rfl | rfl) <;> exact ⟨by simp only; omega, by simp only; omega, by simp only; omega⟩
    · rw [if_neg hp]
      refine ⟨by simp, ?_⟩
      simp only [List.nil_append, List.mem_cons, List.not_mem_nil, or_false]
      rintro s (rfl | rfl) <;> exact ⟨by simp only; omega, by simp only; omega, by simp only; omega⟩
   have hw2 := with_is (ctxWith 2 b.f1 (wid b)) 1 a.f1 (wid a) ⟨haw.2.2.1, by omega⟩ (by omega) hcl.2
   obtain ⟨LL, hLL⟩ : ∃ LL, LL = withL 1 a.f1 (wid a) (ctxWith 2 b.f1 (wid b)) 0 := ⟨_, rfl⟩
   rw [← hLL] at hrt hw2
   have HW2 := Aside0.mk hw2
   have hM : ∀ p : Int, 0 ≤ p → p ≤ 4194304 → Aside0 (ownE a = 0 ∧ a.f3 = [] ∧ (0 ≤ p ∧ p ≤ 4194304) ∧ (0 ≤ wid a ∧ wid a ≤ 1048576)) := fun p q1 q2 => ⟨HF.out.2.2.1, h3, ⟨q1, q2⟩, by omega, by omega⟩
   have hT : ∀ pl : Int, Tells LL 1 pl → (LL.length ≤ 100 ∧ decide (LL.countP (fun s => decide (s.f0 = 2)) = 1) = true) ∧ redraftref05_place.f 101 (LL.foldl (wo 2) []) 1 0 = some pl := fun pl ⟨t1, t2, t3⟩ => by
    obtain ⟨t4, t5, t6⟩ := t3 rfl
    refine ⟨⟨by omega, decide_eq_true t2⟩, ?_⟩
    have := place_is (LL.foldl (wo 2) []) 1 0 (by omega) (by omega) t6 (LL.foldl (wo 2) []).length 101 0 0 (by omega) (by omega) (by omega) (by omega)
    unfold redraftref05_place.f
    rw [List.drop_zero, t4] at this
    exact this
   have hcase : (∃ pl, Tells LL 1 pl ∧ (0 ≤ pl ∧ pl ≤ 4194304) ∧ (if a.f1 ≤ b.f1 then (a, 0) else if b.f1 + wid b ≤ a.f1 then moveE a (a.f1 - wid b) else (z41, 23)) = moveE a pl) ∨ (b.f1 < a.f1 ∧ a.f1 < b.f1 + wid b) := by
    by_cases e0 : a.f1 ≤ b.f1
    · exact .inl ⟨a.f1, hrt.1 e0, ⟨by omega, by omega⟩, by rw [if_pos e0, hmv]⟩
    · by_cases e1 : b.f1 + wid b ≤ a.f1
      · exact .inl ⟨a.f1 - wid b, hrt.2.2 e1, ⟨by omega, by omega⟩, by rw [if_neg e0, if_pos e1]⟩
      · exact .inr ⟨by omega, by omega⟩
   rcases hcase with ⟨pl, htl, hb2, heq⟩ | ⟨e1, e0⟩
   · rw [heq]
     obtain ⟨⟨t1, t2⟩, t3⟩ := hT pl htl
     have HLL := Aside0.mk t1; have HWH := Aside0.mk t2; have HPL := Aside0.mk t3
     have HM := hM pl hb2.1 hb2.2
     clear hrt hcl hw2 hM hT t1 t2 t3 hmv h3 haw hbw hk k1 k4 hkind hLL htl hb2 heq
     go_enter Tryd.func97, Tryd.ntmps97
     go_wp2_with (first | ((with_reducible refine gate_box rfl ?_); refine ev_box S ?_; clear S; intro _ _ S) | ((with_reducible refine gate_new rfl ?_); refine ev_new S 41 zA ?_; clear S; intro _ _ S) | ((with_reducible refine gate_load rfl ?_); first | refine ev_load S ?_ | refine ev_fld S ?_) | (go_at_call 108; (with_reducible refine (isC_any a b _ _ HC.out).mono ?_); rintro e w7 ⟨rfl, hb⟩; replace S := Aside0.mk (S.out.step hb); clear hb) | (go_at_call 108; (with_reducible refine (is_any a.f4.f0 a.f4.f1 b.f0.f0.f0 b.f0.f0.f1 _ _ HTG.out).mono ?_); rintro e w7 ⟨rfl, hb⟩; replace S := Aside0.mk (S.out.step hb); clear hb) | (go_at_call 105; (with_reducible refine (rwidth_any b _ _ (HB.out.below S.out.below) HF.out.2.1 HF.out.2.2.2).mono ?_); rintro e w7 ⟨rfl, hb⟩; replace S := Aside0.mk (S.out.step hb); clear hb))
     (refine rg_start (n := 6) (fun W => St w W _ _) [] S.out (fun _ h => h.drew) ?_; clear S; intro _ S; refine pu_ 1 ?_; refine fl_ 2 1 S ?_; refine pu_ 3 ?_; refine cl_ 0 #[] ?_ Tryd.func104; refine (context_any _).mono ?_; rintro e w7 ⟨v, rfl, ⟨Ar, cr, rfl, _⟩, hR, hb⟩; refine ⟨_, rfl, S.step hb, fun _ => ?_⟩; have S' := S.addR hb hR; clear S hb hR; have S := S'; clear S'; refine nr_ ?_; refine cl_ 4 #[.slice Ar 1 cr, .int .i64 2, .int .i64 b.f1, .int .i64 (wid b)] ?_ Tryd.func103; refine (with_any ctx0 _ _ _ 2 b.f1 (wid b) _ (rowC_of S.now.2) HW.out).mono ?_; rintro e w7 ⟨v, rfl, hR, hb⟩; obtain ⟨Aw, cw, rfl⟩ := Kd.R_slice hR; refine ⟨_, rfl, (S.step hb).weak (fun _ h => h.1), fun _ => ?_⟩; have S' := (S.weak (fun _ h => h.1)).addR hb hR; clear S hb hR; have S := S'; clear S'; refine nr_ ?_; refine pu_ 5 ?_; refine done_ (by kernel_rfl) ?_; have S := Aside0.mk S)
     go_wp2_with (((with_reducible refine gate_load rfl ?_); first | refine ev_load S ?_ | refine ev_fld S ?_))
     (refine rg_start (n := 7) (fun W => St w W _ _) [] S.out (fun _ h => h.drew) ?_; clear S; intro _ S; refine pu_ 0 ?_; refine pu_ 1 ?_; refine fl_ 2 2 S ?_; refine ld_ 3 2 S ?_; refine cl_ 4 #[.agg (opA a (.slice A a.f3.length c))] ?_ Tryd.func105; refine (rwidth_any a _ _ (HA.out.below S.below) HF.out.1 HF.out.2.2.1).mono ?_; rintro e w7 ⟨rfl, hb⟩; refine ⟨_, rfl, S.step hb, fun S' => ?_⟩; clear S hb; have S := S'; clear S'; refine nr_ ?_; refine cl_ 5 #[.slice Aw (ctxWith 2 b.f1 (wid b)).length cw, .int .i64 1, .int .i64 a.f1, .int .i64 (wid a)] ?_ Tryd.func103; refine (with_any (ctxWith 2 b.f1 (wid b)) _ _ _ 1 a.f1 (wid a) _ (rowC_of S.now.2) HW2.out).mono ?_; rintro e w7 ⟨v, rfl, hR, hb⟩; obtain ⟨Al, cl, rfl⟩ := Kd.R_slice hR; refine ⟨_, rfl, S.step hb, fun _ => ?_⟩; have S' := S.addR hb hR; clear S hb hR; have S := S'; clear S'; refine nr_ ?_; refine pu_ 6 ?_; refine done_ (by kernel_rfl) ?_; have S := Aside0.mk S)
     go_wp2_with ((go_at_call 112; (with_reducible refine (whole_any LL _ 2 _ _ HLL.out (rowC_of S.out.now.2) HWH.out).mono ?_); rintro e w7 ⟨rfl, hb⟩; replace S := Aside0.mk (S.out.step hb); clear hb))
     (refine rg_start (n := 9) (fun W => St w W _ _) [7] S.out (fun _ h => h.drew) ?_; clear S; intro _ S; refine ld_ 0 2 S ?_; refine pu_ 1 ?_; refine cl_ 2 #[.slice Al LL.length cl, .int .i64 2] ?_ Tryd.func113; refine (without_any LL _ 2 _ HLL.out (rowC_of S.now.2)).mono ?_; rintro e w7 ⟨v, rfl, hR, hb⟩; obtain ⟨Ax, cx, rfl⟩ := Kd.R_slice hR; refine ⟨_, rfl, S.step hb, fun _ => ?_⟩; have S' := S.addR hb hR; clear S hb hR; have S := S'; clear S'; refine nr_ ?_; refine cl_ 3 #[.slice Ax (LL.foldl (wo 2) []).length cx, .int .i64 1, .int .i64 0] ?_ Tryd.func106; refine (place_any _ _ _ 1 0 pl _ (rowC_of S.now.2) HPL.out).mono ?_; rintro e w7 ⟨rfl, hb⟩; have S' := S.step hb; refine ⟨_, rfl, S'.weak (fun _ h => h.1), fun _ => ?_⟩; clear S hb; have S := S'; clear S'; refine nr_ ?_; refine cl_ 4 #[.agg (opA a (.slice A a.f3.length c)), .int .i64 pl] ?_ Tryd.func109; refine (rmoved_any a _ pl _ (HA.out.below S.below) HF.out.1 HM.out.1 HM.out.2.1 HM.out.2.2.1 HM.out.2.2.2).mono ?_; rintro e w7 ⟨v, rfl, hR, hb⟩; obtain ⟨Ai, ci, rfl⟩ := hR.slice; refine ⟨_, rfl, (S.step hb).weak (fun _ h => h.1), fun _ => ?_⟩; have S' := S.addOp hb hR; clear S hb hR; have S := S'; clear S'; refine nr_ ?_; refine pu_ 5 ?_; refine pu_ 6 ?_; refine so_ 7 0 S ?_; clear S; intro _ S; refine pu_ 8 ?_; refine done_ (by kernel_rfl) ?_; have S := Aside0.mk S)
     go_wp2_with (fail)
     exact bodyPost_ret (results_ct rfl _ _ _ 41 _ (0, 0) _ rfl (S.out.at_ 0 rfl) Tryd.underlying41 rfl (by kernel_rfl)) rfl ⟨_, rfl, S.out.now.2, S.out.below⟩
   · rw [if_neg (by omega), if_neg (by omega)]
     obtain ⟨t1, t2, _⟩ := hrt.2.1 e1 e0
     have HLL := Aside0.mk (show LL.length ≤ 100 by omega)
     have HWH := Aside0.mk (show decide (LL.countP (fun s => decide (s.f0 = 2)) = 1) = false from decide_eq_false (by omega))
     clear hrt hcl hw2 hM hT e0 e1 t1 t2 hmv h3 haw hbw hk k1 k4 hkind hLL
     go_enter Tryd.func97, Tryd.ntmps97
     go_wp2_with (first | ((with_reducible refine gate_box rfl ?_); refine ev_box S ?_; clear S; intro _ _ S) | ((with_reducible refine gate_new rfl ?_); refine ev_new S 41 zA ?_; clear S; intro _ _ S) | ((with_reducible refine gate_load rfl ?_); first | refine ev_load S ?_ | refine ev_fld S ?_) | (go_at_call 108; (with_reducible refine (isC_any a b _ _ HC.out).mono ?_); rintro e w7 ⟨rfl, hb⟩; replace S := Aside0.mk (S.out.step hb); clear hb) | (go_at_call 108; (with_reducible refine (is_any a.f4.f0 a.f4.f1 b.f0.f0.f0 b.f0.f0.f1 _ _ HTG.out).mono ?_); rintro e w7 ⟨rfl, hb⟩; replace S := Aside0.mk (S.out.step hb); clear hb) | (go_at_call 105; (with_reducible refine (rwidth_any b _ _ (HB.out.below S.out.below) HF.out.2.1 HF.out.2.2.2).mono ?_); rintro e w7 ⟨rfl, hb⟩; replace S := Aside0.mk (S.out.step hb); clear hb))
     (refine rg_start (n := 6) (fun W => St w W _ _) [] S.out (fun _ h => h.drew) ?_; clear S; intro _ S; refine pu_ 1 ?_; refine fl_ 2 1 S ?_; refine pu_ 3 ?_; refine cl_ 0 #[] ?_ Tryd.func104; refine (context_any _).mono ?_; rintro e w7 ⟨v, rfl, ⟨Ar, cr, rfl, _⟩, hR, hb⟩; refine ⟨_, rfl, S.step hb, fun _ => ?_⟩; have S' := S.addR hb hR; clear S hb hR; have S := S'; clear S'; refine nr_ ?_; refine cl_ 4 #[.slice Ar 1 cr, .int .i64 2, .int .i64 b.f1, .int .i64 (wid b)] ?_ Tryd.func103; refine (with_any ctx0 _ _ _ 2 b.f1 (wid b) _ (rowC_of S.now.2) HW.out).mono ?_; rintro e w7 ⟨v, rfl, hR, hb⟩; obtain ⟨Aw, cw, rfl⟩ := Kd.R_slice hR; refine ⟨_, rfl, (S.step hb).weak (fun _ h => h.1), fun _ => ?_⟩; have S' := (S.weak (fun _ h => h.1)).addR hb hR; clear S hb hR; have S := S'; clear S'; refine nr_ ?_; refine pu_ 5 ?_; refine done_ (by kernel_rfl) ?_; have S := Aside0.mk S)
     go_wp2_with (((with_reducible refine gate_load rfl ?_); first | refine ev_load S ?_ | refine ev_fld S ?_))
     (refine rg_start (n := 7) (fun W => St w W _ _) [] S.out (fun _ h => h.drew) ?_; clear S; intro _ S; refine pu_ 0 ?_; refine pu_ 1 ?_; refine fl_ 2 2 S ?_; refine ld_ 3 2 S ?_; refine cl_ 4 #[.agg (opA a (.slice A a.f3.length c))] ?_ Tryd.func105; refine (rwidth_any a _ _ (HA.out.below S.below) HF.out.1 HF.out.2.2.1).mono ?_; rintro e w7 ⟨rfl, hb⟩; refine ⟨_, rfl, S.step hb, fun S' => ?_⟩; clear S hb; have S := S'; clear S'; refine nr_ ?_; refine cl_ 5 #[.slice Aw (ctxWith 2 b.f1 (wid b)).length cw, .int .i64 1, .int .i64 a.f1, .int .i64 (wid a)] ?_ Tryd.func103; refine (with_any (ctxWith 2 b.f1 (wid b)) _ _ _ 1 a.f1 (wid a) _ (rowC_of S.now.2) HW2.out).mono ?_; rintro e w7 ⟨v, rfl, hR, hb⟩; obtain ⟨Al, cl, rfl⟩ := Kd.R_slice hR; refine ⟨_, rfl, S.step hb, fun _ => ?_⟩; have S' := S.addR hb hR; clear S hb hR; have S := S'; clear S'; refine nr_ ?_; refine pu_ 6 ?_; refine done_ (by kernel_rfl) ?_; have S := Aside0.mk S)
     go_wp2_with (first | ((with_reducible refine gate_st rfl ?_); refine ev_store S ?_; clear S; intro _ S) | (go_at_call 112; (with_reducible refine (whole_any LL _ 2 _ _ HLL.out (rowC_of S.out.now.2) HWH.out).mono ?_); rintro e w7 ⟨rfl, hb⟩; replace S := Aside0.mk (S.out.step hb); clear hb))
     exact bodyPost_ret (results_ct rfl _ _ _ 41 zA (0, 0) _ rfl (S.out.at_ 0 rfl) Tryd.underlying41 rfl (by kernel_rfl)) rfl ⟨.slice none 0 0, rfl, opR_nil _ _, S.out.below⟩
 rw [if_neg k1]
 have k1' : (a.f0.f1 != 1) = true := bne_iff_ne.mpr k1
 have hrg := HGA.out.rng (by omega)
 obtain ⟨k, hf⟩ := found_back a.f3 b.f1 (wid b) hrg ⟨hbw.2.2.1, by omega⟩ ⟨hbw.1, by omega⟩ hbw.2.2.2
 cases hh : hits b.f1 (wid b) a.f3 with
 | true =>
  rw [if_pos rfl]
  rw [hh, if_pos rfl] at hf
  obtain ⟨lf, hlf⟩ : ∃ lf : List S94, lf = [] := ⟨_, rfl⟩
  obtain ⟨qf, hqf⟩ : ∃ qf : Int, qf = 23 := ⟨_, rfl⟩
  rw [← hlf, ← hqf] at hf
  have HP := Aside0.mk hf
  have q1 : (qf != 0) = true := by rw [hqf]; rfl
  rw [← hqf]
  clear hf hh hrg hbw hk k1 k4 hkind hlf hqf
  go_enter Tryd.func97, Tryd.ntmps97
  go_wp2_with (first | ((with_reducible refine gate_box rfl ?_); refine ev_box S ?_; clear S; intro _ _ S) | ((with_reducible refine gate_new rfl ?_); refine ev_new S 41 zA ?_; clear S; intro _ _ S) | ((with_reducible refine gate_load rfl ?_); first | refine ev_load S ?_ | refine ev_fld S ?_) | (go_at_call 108; (with_reducible refine (isC_any a b _ _ HC.out).mono ?_); rintro e w7 ⟨rfl, hb⟩; replace S := Aside0.mk (S.out.step hb); clear hb) | (go_at_call 108; (with_reducible refine (is_any a.f4.f0 a.f4.f1 b.f0.f0.f0 b.f0.f0.f1 _ _ HTG.out).mono ?_); rintro e w7 ⟨rfl, hb⟩; replace S := Aside0.mk (S.out.step hb); clear hb) | (go_at_call 105; (with_reducible refine (rwidth_any b _ _ (HB.out.below S.out.below) HF.out.2.1 HF.out.2.2.2).mono ?_); rintro e w7 ⟨rfl, hb⟩; replace S := Aside0.mk (S.out.step hb); clear hb))
  (refine rg_start (n := 6) (fun W => St w W _ _) [] S.out (fun _ h => h.drew) ?_; clear S; intro _ S; refine pu_ 1 ?_; refine fl_ 2 1 S ?_; refine pu_ 3 ?_; refine cl_ 0 #[] ?_ Tryd.func104; refine (context_any _).mono ?_; rintro e w7 ⟨v, rfl, ⟨Ar, cr, rfl, _⟩, hR, hb⟩; refine ⟨_, rfl, S.step hb, fun _ => ?_⟩; have S' := S.addR hb hR; clear S hb hR; have S := S'; clear S'; refine nr_ ?_; refine cl_ 4 #[.slice Ar 1 cr, .int .i64 2, .int .i64 b.f1, .int .i64 (wid b)] ?_ Tryd.func103; refine (with_any ctx0 _ _ _ 2 b.f1 (wid b) _ (rowC_of S.now.2) HW.out).mono ?_; rintro e w7 ⟨v, rfl, hR, hb⟩; obtain ⟨Aw, cw, rfl⟩ := Kd.R_slice hR; refine ⟨_, rfl, (S.step hb).weak (fun _ h => h.1), fun _ => ?_⟩; have S' := (S.weak (fun _ h => h.1)).addR hb hR; clear S hb hR; have S := S'; clear S'; refine nr_ ?_; refine pu_ 5 ?_; refine done_ (by kernel_rfl) ?_; have S := Aside0.mk S)
  go_wp2_with (((with_reducible refine gate_load rfl ?_); first | refine ev_load S ?_ | refine ev_fld S ?_))
  (refine rg_start (n := 10) (fun W => St w W _ _) [] S.out (fun _ h => h.drew) ?_; clear S; intro _ S; refine pu_ 0 ?_; refine pu_ 2 ?_; refine fl_ 3 2 S ?_; refine cl_ 1 #[] ?_ Tryd.func104; refine (context_any _).mono ?_; rintro e w7 ⟨v, rfl, ⟨Ar, cr, rfl, _⟩, hR, hb⟩; refine ⟨_, rfl, S.step hb, fun _ => ?_⟩; have S' := S.addR hb hR; clear S hb hR; have S := S'; clear S'; refine nr_ ?_; refine cl_ 4 #[.slice Aw (ctxWith 2 b.f1 (wid b)).length cw, .slice Ar 1 cr, .slice A a.f3.length c] ?_ Tryd.func110; refine (found_any (ctxWith 2 b.f1 (wid b)) ctx0 a.f3 lf qf _ _ _ A c _ (rowC_of S.now.1.2) (rowC_of S.now.2) H1.out (Kd.C_below H2.out S.below) HP.out).mono ?_; rintro e w7 ⟨v, rfl, hR, hb⟩; obtain ⟨Af, cf, rfl⟩ := Kd.R_slice hR; refine ⟨_, rfl, (S.step hb).weak (fun _ h => h.1), fun _ => ?_⟩; have S' := S.addR hb hR; clear S hb hR; have S := S'; clear S'; refine nr_ ?_; refine pu_ 5 ?_; refine pu_ 6 ?_; refine pu_ 7 ?_; refine pu_ 8 ?_; refine pu_ 9 ?_; refine done_ (by kernel_rfl) ?_; have S := Aside0.mk S)
  go_wp2_with (((with_reducible refine gate_st rfl ?_); refine ev_store S ?_; clear S; intro _ S))
  exact bodyPost_ret (results_ct rfl _ _ _ 41 zA (0, 0) _ rfl (S.out.at_ 0 rfl) Tryd.underlying41 rfl (by kernel_rfl)) rfl ⟨.slice none 0 0, rfl, opR_nil _ _, S.out.below⟩
 | false =>
  rw [if_neg (by simp)]
  rw [hh, if_neg (by simp)] at hf
  rw [← cov_bk b.f1 (wid b) hrg hbw.1]
  obtain ⟨lf, hlf⟩ : ∃ lf, lf = bkS b.f1 (wid b) a.f3 := ⟨_, rfl⟩
  obtain ⟨qf, hqf⟩ : ∃ qf : Int, qf = 0 := ⟨_, rfl⟩
  rw [← hlf, ← hqf] at hf
  rw [← hlf]
  have HP := Aside0.mk hf
  have HL := Aside0.mk (show lf.length ≤ 4611686018427387904 by
   have := fold_jn_len (a.f3.map (mv b.f1 (wid b))) []
   have := HF.out.1.2
   rw [hlf]; unfold bkS; simp at *; omega)
  have q1 : (qf != 0) = false := by rw [hqf]; rfl
  clear hf hh hrg hbw hk k1 k4 hkind hlf hqf
  go_enter Tryd.func97, Tryd.ntmps97
  go_wp2_with (first | ((with_reducible refine gate_box rfl ?_); refine ev_box S ?_; clear S; intro _ _ S) | ((with_reducible refine gate_new rfl ?_); refine ev_new S 41 zA ?_; clear S; intro _ _ S) | ((with_reducible refine gate_load rfl ?_); first | refine ev_load S ?_ | refine ev_fld S ?_) | (go_at_call 108; (with_reducible refine (isC_any a b _ _ HC.out).mono ?_); rintro e w7 ⟨rfl, hb⟩; replace S := Aside0.mk (S.out.step hb); clear hb) | (go_at_call 108; (with_reducible refine (is_any a.f4.f0 a.f4.f1 b.f0.f0.f0 b.f0.f0.f1 _ _ HTG.out).mono ?_); rintro e w7 ⟨rfl, hb⟩; replace S := Aside0.mk (S.out.step hb); clear hb) | (go_at_call 105; (with_reducible refine (rwidth_any b _ _ (HB.out.below S.out.below) HF.out.2.1 HF.out.2.2.2).mono ?_); rintro e w7 ⟨rfl, hb⟩; replace S := Aside0.mk (S.out.step hb); clear hb))
  (refine rg_start (n := 6) (fun W => St w W _ _) [] S.out (fun _ h => h.drew) ?_; clear S; intro _ S; refine pu_ 1 ?_; refine fl_ 2 1 S ?_; refine pu_ 3 ?_; refine cl_ 0 #[] ?_ Tryd.func104; refine (context_any _).mono ?_; rintro e w7 ⟨v, rfl, ⟨Ar, cr, rfl, _⟩, hR, hb⟩; refine ⟨_, rfl, S.step hb, fun _ => ?_⟩; have S' := S.addR hb hR; clear S hb hR; have S := S'; clear S'; refine nr_ ?_; refine cl_ 4 #[.slice Ar 1 cr, .int .i64 2, .int .i64 b.f1, .int .i64 (wid b)] ?_ Tryd.func103; refine (with_any ctx0 _ _ _ 2 b.f1 (wid b) _ (rowC_of S.now.2) HW.out).mono ?_; rintro e w7 ⟨v, rfl, hR, hb⟩; obtain ⟨Aw, cw, rfl⟩ := Kd.R_slice hR; refine ⟨_, rfl, (S.step hb).weak (fun _ h => h.1), fun _ => ?_⟩; have S' := (S.weak (fun _ h => h.1)).addR hb hR; clear S hb hR; have S := S'; clear S'; refine nr_ ?_; refine pu_ 5 ?_; refine done_ (by kernel_rfl) ?_; have S := Aside0.mk S)
  go_wp2_with (((with_reducible refine gate_load rfl ?_); first | refine ev_load S ?_ | refine ev_fld S ?_))
  (refine rg_start (n := 10) (fun W => St w W _ _) [] S.out (fun _ h => h.drew) ?_; clear S; intro _ S; refine pu_ 0 ?_; refine pu_ 2 ?_; refine fl_ 3 2 S ?_; refine cl_ 1 #[] ?_ Tryd.func104; refine (context_any _).mono ?_; rintro e w7 ⟨v, rfl, ⟨Ar, cr, rfl, _⟩, hR, hb⟩; refine ⟨_, rfl, S.step hb, fun _ => ?_⟩; have S' := S.addR hb hR; clear S hb hR; have S := S'; clear S'; refine nr_ ?_; refine cl_ 4 #[.slice Aw (ctxWith 2 b.f1 (wid b)).length cw, .slice Ar 1 cr, .slice A a.f3.length c] ?_ Tryd.func110; refine (found_any (ctxWith 2 b.f1 (wid b)) ctx0 a.f3 lf qf _ _ _ A c _ (rowC_of S.now.1.2) (rowC_of S.now.2) H1.out (Kd.C_below H2.out S.below) HP.out).mono ?_; rintro e w7 ⟨v, rfl, hR, hb⟩; obtain ⟨Af, cf, rfl⟩ := Kd.R_slice hR; refine ⟨_, rfl, (S.step hb).weak (fun _ h => h.1), fun _ => ?_⟩; have S' := S.addR hb hR; clear S hb hR; have S := S'; clear S'; refine nr_ ?_; refine pu_ 5 ?_; refine pu_ 6 ?_; refine pu_ 7 ?_; refine pu_ 8 ?_; refine pu_ 9 ?_; refine done_ (by kernel_rfl) ?_; have S := Aside0.mk S)
  go_wp2_with (first | ((with_reducible refine gate_load rfl ?_); first | refine ev_load S ?_ | refine ev_fld S ?_) | ((with_reducible refine gate_st rfl ?_); refine ev_store S ?_; clear S; intro _ S) | (go_at_call 111; (with_reducible refine (covering_any a _ _ _ w _ _ _ S.out ?hbs HA.out S.out.now.2 HL.out).mono ?_); (case hbs => simp [k94_E]); rintro e w7 ⟨v, rfl, ⟨Ai, ci, rfl⟩, hS⟩; replace S := Aside0.mk hS; clear hS))
  exact bodyPost_ret (results_ct rfl _ _ _ 41 _ (0, 0) _ rfl (S.out.at_ 0 rfl) Tryd.underlying41 rfl (by kernel_rfl)) rfl ⟨_, rfl, S.out.now.2, S.out.below⟩
end Go.Proofs.YtloccjkcmlkifaaDoor
end

section
/- Where the first insert stands behind the second, in a row that holds both. -/
namespace Go.Proofs.YtloccjkcmlkifaaDoor
open Go.RowKit Go.Proofs.YtloccjkcmlkifaaDoor.PAll Go.Proofs.YtloccjkcmlkifaaDoorW.PrintWords

theorem rows_tell2 (p n x m : Int) (hp : 0 ≤ p ∧ p ≤ 1048576) (hn : 1 ≤ n ∧ n ≤ 1048576) (hx : 0 ≤ x ∧ x ≤ 1048576) (hm : 1 ≤ m ∧ m ≤ 1048576) (hpn : p + n ≤ 1048576) (h : x ≤ p ∨ p + n ≤ x) :
 placeL 1 0 (withL 2 x m (ctxWith 1 p n) 0) 0 = (if x ≤ p then p + m else p) ∧ (withL 2 x m (ctxWith 1 p n) 0).length ≤ 8 ∧ ∀ s ∈ withL 2 x m (ctxWith 1 p n) 0, Bd s := by
 have hn0 : (0 : Int) < n := by omega
 by_cases h0 : p > 0
 · have hc : ctxWith 1 p n = [⟨0, 0, p⟩, ⟨1, 0, n⟩, ⟨0, p, 2097152⟩] := by unfold ctxWith; rw [if_pos h0]; rfl
   have hw : withL 2 x m (ctxWith 1 p n) 0 = wst 2 x m ⟨0, 0, p⟩ 0 ++ (wst 2 x m ⟨1, 0, n⟩ p ++ (wst 2 x m ⟨0, p, 2097152⟩ (p + n) ++ [])) := by
    rw [hc]
    show wst 2 x m ⟨0, 0, p⟩ 0 ++ (wst 2 x m ⟨1, 0, n⟩ (0 + p - 0) ++ (wst 2 x m ⟨0, p, 2097152⟩ (0 + p - 0 + n - 0) ++ [])) = _
    rw [show (0 : Int) + p - 0 = p by omega, show p + n - 0 = p + n by omega]
   rw [hw]
   by_cases c : x ≤ p
   · rw [if_pos c]
     by_cases e : x = p
     · rw [wst_no (.inr (by omega)), wst_at e (by omega), wst_no (.inl (by omega))]
       refine ⟨by simp [placeL, hn0], by simp, ?_⟩
       simp only [List.cons_append, List.nil_append, List.append_nil, List.mem_cons, List.not_mem_nil, or_false]
       rintro s (rfl | rfl | rfl | rfl) <;> exact ⟨by simp only; omega, by simp only; omega, by simp only; omega⟩
     · by_cases e0 : x = 0
       · rw [wst_at e0 (by omega), wst_no (.inl (by omega)), wst_no (.inl (by omega))]
         refine ⟨by simp [placeL, hn0]; omega, by simp, ?_⟩
         simp only [List.cons_append, List.nil_append, List.append_nil, List.mem_cons, List.not_mem_nil, or_false]
         rintro s (rfl | rfl | rfl | rfl) <;> exact ⟨by simp only; omega, by simp only; omega, by simp only; omega⟩
       · rw [wst_in (by omega) (by omega), wst_no (.inl (by omega)), wst_no (.inl (by omega)), show (0 : Int) + x - 0 = x by omega]
         refine ⟨by simp [placeL, hn0]; omega, by simp, ?_⟩
         simp only [List.cons_append, List.nil_append, List.append_nil, List.mem_cons, List.not_mem_nil, or_false]
         rintro s (rfl | rfl | rfl | rfl | rfl) <;> exact ⟨by simp only; omega, by simp only; omega, by simp only; omega⟩
   · rw [if_neg c]
     by_cases e : x = p + n
     · rw [wst_no (.inr (by omega)), wst_no (.inr (by omega)), wst_at e (by omega)]
       refine ⟨by simp [placeL, hn0], by simp, ?_⟩
       simp only [List.cons_append, List.nil_append, List.append_nil, List.mem_cons, List.not_mem_nil, or_false]
       rintro s (rfl | rfl | rfl | rfl) <;> exact ⟨by simp only; omega, by simp only; omega, by simp only; omega⟩
     · rw [wst_no (.inr (by omega)), wst_no (.inr (by omega)), wst_in (by omega) (by omega)]
       refine ⟨by simp [placeL, hn0], by simp, ?_⟩
       simp only [List.cons_append, List.nil_append, List.append_nil, List.mem_cons, List.not_mem_nil, or_false]
       rintro s (rfl | rfl | rfl | rfl | rfl) <;> exact ⟨by simp only; omega, by simp only; omega, by simp only; omega⟩
 · have hp0 : p = 0 := by omega
   subst hp0
   have hc : ctxWith 1 0 n = [⟨1, 0, n⟩, ⟨0, 0, 2097152⟩] := rfl
   have hw : withL 2 x m (ctxWith 1 0 n) 0 = wst 2 x m ⟨1, 0, n⟩ 0 ++ (wst 2 x m ⟨0, 0, 2097152⟩ n ++ []) := by
    rw [hc]
    show wst 2 x m ⟨1, 0, n⟩ 0 ++ (wst 2 x m ⟨0, 0, 2097152⟩ (0 + n - 0) ++ []) = _
    rw [show (0 : Int) + n - 0 = n by omega]
   rw [hw]
   by_cases c : x ≤ 0
   · rw [if_pos c, wst_at (by omega) (by omega), wst_no (.inl (by omega))]
     refine ⟨by simp [placeL, hn0], by simp, ?_⟩
     simp only [List.cons_append, List.nil_append, List.append_nil, List.mem_cons, List.not_mem_nil, or_false]
     rintro s (rfl | rfl | rfl) <;> exact ⟨by simp only; omega, by simp only; omega, by simp only; omega⟩
   · rw [if_neg c]
     by_cases e : x = n
     · rw [wst_no (.inr (by omega)), wst_at e (by omega)]
       refine ⟨by simp [placeL, hn0], by simp, ?_⟩
       simp only [List.cons_append, List.nil_append, List.append_nil, List.mem_cons, List.not_mem_nil, or_false]
       rintro s (rfl | rfl | rfl) <;> exact ⟨by simp only; omega, by simp only; omega, by simp only; omega⟩
     · rw [wst_no (.inr (by omega)), wst_in (by omega) (by omega)]
       refine ⟨by simp [placeL, hn0], by simp, ?_⟩
       simp only [List.cons_append, List.nil_append, List.append_nil, List.mem_cons, List.not_mem_nil, or_false]
       rintro s (rfl | rfl | rfl | rfl) <;> exact ⟨by simp only; omega, by simp only; omega, by simp only; omega⟩
end Go.Proofs.YtloccjkcmlkifaaDoor
end
