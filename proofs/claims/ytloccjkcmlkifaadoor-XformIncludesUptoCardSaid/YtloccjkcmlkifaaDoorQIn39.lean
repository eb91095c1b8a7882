/- XformIncludes_card, part 39. -/
import Derived.Test.YtloccjkcmlkifaaDoorQIn38
import Derived.Test.YtloccjkcmlkifaaDoorQIn24
import Derived.Test.YtloccjkcmlkifaaDoorQIn29
import Derived.Test.YtloccjkcmlkifaaDoorQIn35
import Derived.Test.YtloccjkcmlkifaaDoorQIn33

section
/- Transpose, as both sides have it; the program's. -/
namespace Go.Proofs.YtloccjkcmlkifaaDoor
open Go.RowKit Go.Proofs.YtloccjkcmlkifaaDoor.PAll Go.Proofs.YtloccjkcmlkifaaDoorW.PrintWords

def trE (a b : S41) : S41 × S41 × Int :=
  if (excE b a).2 ≠ 0 then (z41, z41, (excE b a).2)
  else if trClash a b = true then (z41, z41, 50)
  else if b.f0.f1 = 1 ∧ a.f0.f1 = 1 ∧ b.f1 ≤ a.f1 then (if (moveE a (a.f1 + wid b)).2 ≠ 0 then (z41, z41, (moveE a (a.f1 + wid b)).2) else ((excE b a).1, (moveE a (a.f1 + wid b)).1, 0))
  else if b.f0.f1 = 1 ∧ (a.f0.f1 = 2 ∨ a.f0.f1 = 3) then (if (incE a b false).2 ≠ 0 then (z41, z41, (incE a b false).2) else ((excE b a).1, (incE a b false).1, 0))
  else ((excE b a).1, a, 0)
theorem trE_prog (a b : S41) (va vb : Value) (w : World) (hG : GW w) (ha : OpC w va a) (hb : OpC w vb b) (ga : Good a) (gb : Good b) :
    Calls Tryd.prog 62 #[.agg (opA a va), .agg (opA b vb)] w (RetOp2 w (trE a b)) := by
  obtain ⟨rb, h, e⟩ := exc_r gb ga
  have et : trP a b rb (thrE a.f3 b.f1 (wid b)) = trE a b := by
    unfold trP trE
    rw [e]
    rfl
  rw [← et]
  exact transpose_any a b va vb rb _ w hG ha hb ga.fit gb.fit h fun h1 h2 => by
    have hb1 := gb.wid1 h2
    exact through_is a.f3 b.f1 (wid b) (ga.rng h1) ⟨hb1.2.2.1, by omega⟩ ⟨hb1.1, by omega⟩ (last_bound (ga.rng h1))
end Go.Proofs.YtloccjkcmlkifaaDoor
end

section
/- Runs: their own errors, on both sides; an element that is read. -/
namespace Go.Proofs.YtloccjkcmlkifaaDoor
open Go.RowKit Go.Proofs.YtloccjkcmlkifaaDoor.PAll Go.Proofs.YtloccjkcmlkifaaDoorW.PrintWords

def ownsE : List S41 → Int
  | [] => 0
  | o :: t => if ownE o = 0 then ownsE t else ownE o
theorem owns_good : ∀ {l : List S41}, ownsE l = 0 → (∀ o ∈ l, fineOp o) → ∀ o ∈ l, Good o
  | o :: t, h, hf, x, hx => by
    unfold ownsE at h
    by_cases c : ownE o = 0
    · rw [if_pos c] at h
      rcases List.mem_cons.1 hx with rfl | hx
      · exact ⟨c, hf _ (by simp)⟩
      · exact owns_good h (fun y hy => hf y (by simp [hy])) x hx
    · rw [if_neg c] at h; exact absurd h c
theorem owns_loop (l : List S41) (hf : ∀ o ∈ l, fineOp o) (hl : l.length ≤ 1048576) : ∀ (d i : Nat), l.length = i + d → Ev (fun k => xform_owns.l0 k l (l.length : Int) (i : Int)) (ownsE (l.drop i)) := by
  intro d
  induction d with
  | zero =>
    intro i h
    refine ⟨1, fun k hk => ?_⟩
    obtain ⟨k, rfl⟩ : ∃ m, k = m + 1 := ⟨k - 1, by omega⟩
    simp only
    rw [xform_owns.l0, if_neg (by omega), List.drop_eq_nil_of_le (by omega)]
    rfl
  | succ d ih =>
    intro i h
    have hi : i < l.length := by omega
    obtain ⟨K1, h1⟩ := ih (i + 1) (by omega)
    obtain ⟨o, ho⟩ : ∃ o, o = l.getD i z41 := ⟨_, rfl⟩
    have hd : l.drop i = o :: l.drop (i + 1) := by
      rw [ho, List.drop_eq_getElem_cons hi, List.getD_eq_getElem?_getD, List.getElem?_eq_getElem hi]; rfl
    have hm : o ∈ l := by
      rw [ho, List.getD_eq_getElem?_getD, List.getElem?_eq_getElem hi]; exact List.getElem_mem hi
    have hfo := hf o hm
    obtain ⟨K2, h2⟩ := own_is o hfo.1 (by have := hfo.2; omega)
    dsimp only at h1 h2
    have e : rd_T41 l (i : Int) = o := by unfold rd_T41; rw [Int.toNat_natCast, ho]
    have w : wrap64 ((i : Int) + 1) = ((i + 1 : Nat) : Int) := by rw [wrap_id (by omega) (by omega)]; omega
    have q1 : (i : Int) < (l.length : Int) := by omega
    have q2 : (0 : Int) ≤ (i : Int) := by omega
    refine ⟨K1 + K2 + 1, fun k hk => ?_⟩
    obtain ⟨k, rfl⟩ : ∃ m, k = m + 1 := ⟨k - 1, by omega⟩
    simp only
    rw [xform_owns.l0, if_pos q1, if_pos q2, if_pos q1, e, h2 k (by omega)]
    simp only [Option.bind_some]
    rw [hd]
    unfold ownsE
    by_cases c : ownE o = 0
    · rw [if_pos c, if_pos c, w, h1 k (by omega)]
    · rw [if_neg c, if_neg c]
theorem rowns_loop (l : List S41) (hf : ∀ o ∈ l, fineOp o) (hl : l.length ≤ 1048576) : ∀ (d i : Nat), l.length = i + d → Ev (fun k => redraftref05_own.l0 k l (i : Int)) (ownsE (l.drop i)) := by
  intro d
  induction d with
  | zero =>
    intro i h
    refine ⟨1, fun k hk => ?_⟩
    obtain ⟨k, rfl⟩ : ∃ m, k = m + 1 := ⟨k - 1, by omega⟩
    simp only
    rw [redraftref05_own.l0, if_neg (by omega), List.drop_eq_nil_of_le (by omega)]
    rfl
  | succ d ih =>
    intro i h
    have hi : i < l.length := by omega
    obtain ⟨K1, h1⟩ := ih (i + 1) (by omega)
    obtain ⟨o, ho⟩ : ∃ o, o = l.getD i z41 := ⟨_, rfl⟩
    have hd : l.drop i = o :: l.drop (i + 1) := by
      rw [ho, List.drop_eq_getElem_cons hi, List.getD_eq_getElem?_getD, List.getElem?_eq_getElem hi]; rfl
    have hm : o ∈ l := by
      rw [ho, List.getD_eq_getElem?_getD, List.getElem?_eq_getElem hi]; exact List.getElem_mem hi
    have hfo := hf o hm
    obtain ⟨K2, h2⟩ := rown_is o hfo.1 (by have := hfo.2; omega)
    dsimp only at h1 h2
    have e : rd_T41 l (i : Int) = o := by unfold rd_T41; rw [Int.toNat_natCast, ho]
    have w : wrap64 ((i : Int) + 1) = ((i + 1 : Nat) : Int) := by rw [wrap_id (by omega) (by omega)]; omega
    have q1 : (i : Int) < (l.length : Int) := by omega
    have q2 : (0 : Int) ≤ (i : Int) := by omega
    refine ⟨K1 + K2 + 1, fun k hk => ?_⟩
    obtain ⟨k, rfl⟩ : ∃ m, k = m + 1 := ⟨k - 1, by omega⟩
    simp only
    rw [redraftref05_own.l0, if_pos q1, if_pos q2, e, h2 k (by omega)]
    simp only [Option.bind_some]
    rw [hd]
    unfold ownsE
    by_cases c : ownE o = 0
    · rw [if_pos c, if_pos c, w, h1 k (by omega)]
    · rw [if_neg c, if_neg c]
def RunC (w : World) (v : Value) (l : List S41) : Prop := ∃ A c, v = .slice A l.length c ∧ l.length ≤ c ∧ k41.C w A l.length l
theorem RunC.below {w w' : World} {v : Value} {l : List S41} (h : RunC w v l) (hb : Below w.heap.size w w') : RunC w' v l := by
  obtain ⟨A, c, e, h1, h2⟩ := h
  exact ⟨A, c, e, h1, Kd.C_below h2 hb⟩
theorem runC_mk {w : World} {l : List S41} {A : Option Addr} {c : Nat} (h1 : l.length ≤ c) (h2 : k41.C w A l.length l) : RunC w (.slice A l.length c) l := ⟨A, c, rfl, h1, h2⟩
theorem owns_any (l : List S41) (v : Value) (w : World) (hG : GW w) (h : RunC w v l) (hf : ∀ o ∈ l, fineOp o) (hl : l.length ≤ 1048576) : Calls Tryd.prog 55 #[v] w fun e w' => e = .returned (.int .i64 (ownsE l)) ∧ Below w.heap.size w w' := by
  obtain ⟨A, c, rfl, h1, h2⟩ := h
  obtain ⟨K, hK⟩ := owns_loop l hf hl l.length 0 (by omega)
  exact xform_owns.calls K A c l _ w h2 h1 hG (by unfold xform_owns.f; exact hK K (Nat.le_refl _))
theorem rowns_any (l : List S41) (v : Value) (w : World) (h : RunC w v l) (hf : ∀ o ∈ l, fineOp o) (hl : l.length ≤ 1048576) : Calls Tryd.prog 95 #[v] w fun e w' => e = .returned (.int .i64 (ownsE l)) ∧ Below w.heap.size w w' := by
  obtain ⟨A, c, rfl, h1, h2⟩ := h
  obtain ⟨K, hK⟩ := rowns_loop l hf hl l.length 0 (by omega)
  exact redraftref05_own.calls K A c l _ w h2 h1 (by unfold redraftref05_own.f; exact hK K (Nat.le_refl _))
end Go.Proofs.YtloccjkcmlkifaaDoor
end

section
/- xform.Over: an operation carried over a run. -/
namespace Go.Proofs.YtloccjkcmlkifaaDoor
open Go.RowKit Go.Proofs.YtloccjkcmlkifaaDoor.PAll Go.Proofs.YtloccjkcmlkifaaDoorW.PrintWords

section
variable {P : Program} {ops : Array Oper} {rest : List Oper} {o : Oper} {a : Act} {Q : Exit → Act → World → Prop} {W : World}
theorem ev_ext (cs : Array Value) {N : Tmp} {ty : TypeId} {x : Operand} {d : TypeDesc} {ad : Addr} (hc : atL W ad 0 cs.toList)
    (h : wpList P ops Q rest (a.put (some N) (.agg cs)) W)
    (ho : o.op = .load ty x := by rfl) (hx : a.eval x = .pointer (some ad) := by rfl) (hd : o.dst = some N := by rfl)
    (hw : Region.wanted o (yielded ops a.tmps) = true := by first | exact wanted_plain rfl | (refine wanted_on rfl ?_; simp [yielded])) (hu : P.underlying ty = some d := by first | exact Tryd.underlying41 | exact Tryd.underlying100) (hdd : (match d with | .struct _ | .array _ _ => true | _ => false) = true := by rfl) (hi : (P.info? ty).map (·.size) = some cs.size := by kernel_rfl) : wpList P ops Q (o :: rest) a W := by
  have hr := run_load_wide (P := P) W ad ty cs.toList d hc hu hdd (by simpa using hi)
  refine ev_run (v := .agg cs) hw ?_ (by rw [hd]; exact h)
  unfold execOp
  simp only [ho, hx, Instr.loadAt, Instr.sureAddr, Sem.run_bind, Sem.run_pure, Result.andThen_ok, hr]
end

def overF (e : Bool) (s : S41 × Int) (x : S41) : S41 × Int := if s.2 = 0 then incE s.1 x e else s
structure OverAt (err : Int) (o : S41) (e : Bool) (run : List S41) (w : World) (g6 g3 : Nat) (k : Nat) (s : S41 × Int) (A : Option Addr) (c : Nat) (wr : World) : Prop where
  eq : s = (run.take k).foldl (overF e) (o, err)
  st : St w wr [(g6, 41, zA), (g3, 41, opA s.1 (.slice A s.1.f3.length c))] (fun W => True ∧ OpR W w.heap.size (.slice A s.1.f3.length c) s.1)
end Go.Proofs.YtloccjkcmlkifaaDoor
end

section
/- The document's Over answers as the program's. -/
namespace Go.Proofs.YtloccjkcmlkifaaDoor
open Go.RowKit Go.Proofs.YtloccjkcmlkifaaDoor.PAll Go.Proofs.YtloccjkcmlkifaaDoorW.PrintWords Go.Proofs.YtloccjkcmlkifaaDoorW.PrintLast

section
variable {P : Program} {ops : Array Oper} {Q : Exit → Act → World → Prop} {md : Region.Mode} {S : World → Prop} {ds : List Nat} {fuel : Nat} {l : Array Bool} {a a' : Act} {w w0 : World} {oi : Oper} {N : Tmp} {rest : List Oper} {o : Oper} {W : World} {bs : List Bx} {F : World → Prop}
theorem le_ (i : Nat) (cs : Array Value) {ty : TypeId} {x : Operand} {d : TypeDesc} {ad : Addr} (hS : S w) (hcc : ∀ w', S w' → atL w' ad 0 cs.toList)
    (h : wpAnyLast P md ops Q S ds fuel (l.setIfInBounds i true) a' w)
    (hi : ops[i]? = some oi := by rfl) (hN : oi.dst = some N := by rfl) (hc : takeB md ops ds l (l.setIfInBounds i true) i = true := by kernel_rfl)
    (ho : oi.op = .load ty x := by rfl) (hx : a.eval x = .pointer (some ad) := by rfl)
    (hw : Region.wanted oi (yielded ops a.tmps) = true := by first | exact wanted_plain rfl | (refine wanted_on rfl ?_; simp [yielded]))
    (hu : P.underlying ty = some d := by first | exact Tryd.underlying41 | exact Tryd.underlying100) (hdd : (match d with | .struct _ | .array _ _ => true | _ => false) = true := by rfl) (hs : (P.info? ty).map (·.size) = some cs.size := by kernel_rfl)
    (ha : a.put (some N) (.agg cs) = a' := by (simp only [Act.put, List.setIfInBounds_toArray, List.set_cons_zero, List.set_cons_succ]; rfl))
    (hQ : ∀ c a w, Q (.panic c) (a.put oi.dst (.agg cs)) w → Q (.panic c) a w := by exact fun _ _ _ h => h) : wpAnyLast P md ops Q S ds (fuel + 1) l a w :=
  take_ (l.setIfInBounds i true) hi hN hc hQ (.inl ⟨hw, fun w' hS' => by
    have hr := run_load_wide (P := P) w' ad ty cs.toList d (hcc w' hS') hu hdd (by simpa using hs)
    unfold execOp
    simp only [ho, hx, Instr.loadAt, Instr.sureAddr, Sem.run_bind, Sem.run_pure, Result.andThen_ok, hr]⟩) hS ha h
theorem ev_lit (S : Aside0 (St w0 W bs F)) (cs : Array Value) (n : Nat) {ty : TypeId} {xs : Array (Nat × Operand)}
    (h : ∀ g w', Aside0 (St w0 w' ((g, 41, cs) :: bs) F) → wpList P ops Q rest (a.put (some N) (.slice (some ⟨g, 0, none⟩) n n)) w')
    (ho : o.op = .buildSlice ty n xs := by rfl) (hd : o.dst = some N := by rfl) (hw : Region.wanted o (yielded ops a.tmps) = true := by exact wanted_plain rfl)
    (hrun : (execOp a.eval o).run P W = .ok (.value (.slice (some ⟨W.heap.size, 0, none⟩) n n)) (W.alloc (.cells cs 41 (0, 0))) := by first | (go_simp; done) | (go_simp; rfl)) : wpList P ops Q (o :: rest) a W :=
  have _ := ho
  ev_run hw hrun (by rw [hd]; exact h _ _ ⟨S.out.push (below_alloc (Below.refl _ _) _) (blk_new W _) rfl⟩)
end
theorem opA_K {w : World} {v : Value} {o : S41} (h : OpC w v o) : k41.K w o (opA o v).toList := by
  obtain ⟨A, c, rfl, h1, h2⟩ := h
  exact k41_mk w o h1 h2
theorem runC_box2 {w : World} {g : Nat} {v u : Value} {o p : S41} (h : w.heap[g]? = some (.cells (opA o v ++ opA p u) 41 (0, 0))) (ho : OpC w v o) (hp : OpC w u p) : RunC w (.slice (some ⟨g, 0, none⟩) 2 2) [o, p] := by
  refine ⟨some ⟨g, 0, none⟩, 2, rfl, Nat.le_refl _, rfl, by simp, fun _ => ⟨_, rfl, fun j q hj => ?_⟩⟩
  match j, hj with
  | 0, hj =>
    obtain rfl := Option.some.inj hj
    refine ⟨_, rfl, opA_K ho, fun i x hx => ?_⟩
    have hi : i < 9 := (List.getElem?_eq_some_iff.1 hx).1
    rw [add_plain, blk_cell h, ← hx, Nat.zero_mul, Nat.zero_add, Array.getElem?_append_left (by simpa using hi)]
    simp
  | 1, hj =>
    obtain rfl := Option.some.inj hj
    refine ⟨_, rfl, opA_K hp, fun i x hx => ?_⟩
    have e : 1 * k41.sz = 9 := rfl
    rw [add_plain, blk_cell h, ← hx, e, Array.getElem?_append_right (by simp)]
    simp
  | j + 2, hj => simp at hj
theorem gate_lit {P : Program} {ops : Array Oper} {rest : List Oper} {o : Oper} {a : Act} {Q : Exit → Act → World → Prop} {W : World} {t : TypeId} {n : Nat} {xs : Array (Nat × Operand)} (_ho : o.op = .buildSlice t n xs) (h : wpList P ops Q (o :: rest) a W) : wpList P ops Q (o :: rest) a W := h
end Go.Proofs.YtloccjkcmlkifaaDoor
end

section
/- Include, Exclude, Transpose of the program, told of whole operations. -/
namespace Go.Proofs.YtloccjkcmlkifaaDoor
open Go.RowKit Go.Proofs.YtloccjkcmlkifaaDoor.PAll Go.Proofs.YtloccjkcmlkifaaDoorW.PrintWords Go.Proofs.YtloccjkcmlkifaaDoorW.PrintLast

def wrap1 (a b : S41) (r : S41 × Int) : S41 × Int := if ownsE [a, b] = 0 then r else (z41, ownsE [a, b])
def wrap2 (a b : S41) (r : S41 × S41 × Int) : S41 × S41 × Int := if ownsE [a, b] = 0 then r else (z41, z41, ownsE [a, b])
theorem owns_goods {a b : S41} (h : ownsE [a, b] = 0) (fa : fineOp a) (fb : fineOp b) : Good a ∧ Good b :=
  have g := owns_good h (by intro x hx; simp only [List.mem_cons, List.not_mem_nil, or_false] at hx; rcases hx with rfl | rfl <;> assumption)
  ⟨g a (by simp), g b (by simp)⟩
set_option maxRecDepth 100000 in
set_option maxHeartbeats 4000000 in
theorem Include_any (a b : S41) (e : Bool) (va vb : Value) (w : World) (hG : GW w) (ha : OpC w va a) (hb : OpC w vb b) (fa : fineOp a) (fb : fineOp b) :
    Calls Tryd.prog 26 #[.agg (opA a va), .agg (opA b vb), .bool e] w (RetOp w (wrap1 a b (incE a b e))) := by
  obtain ⟨A, c, rfl, h1, h2⟩ := ha
  obtain ⟨B, d, rfl, h3, h4⟩ := hb
  have S := Aside0.mk (St.init w (F := fun _ => True) (fun _ _ => trivial))
  have HA := Aside0.mk (opC_mk h1 h2); have HB := Aside0.mk (opC_mk h3 h4)
  have HG := Aside0.mk hG
  have HF := Aside0.mk (show ∀ x ∈ [a, b], fineOp x by intro x hx; simp only [List.mem_cons, List.not_mem_nil, or_false] at hx; rcases hx with rfl | rfl <;> assumption)
  have HLE := Aside0.mk (show [a, b].length ≤ 1048576 by simp)
  unfold wrap1
  clear h1 h2 h3 h4 hG
  by_cases h : ownsE [a, b] = 0
  · rw [if_pos h]
    have HX := Aside0.mk (owns_goods h fa fb)
    have h' : (ownsE [a, b] != 0) = false := bne_eq_false_iff_eq.mpr h
    clear h fa fb
    go_enter Tryd.func26, Tryd.ntmps26
    go_wp2_with (first | ((with_reducible refine gate_box rfl ?_); refine ev_box S ?_; clear S; intro _ _ S) | ((with_reducible refine gate_new rfl ?_); refine ev_new S 41 zA ?_; clear S; intro _ _ S) | ((with_reducible refine gate_load rfl ?_); first | refine ev_load S 0 ?_ (hw := by first | exact wanted_plain rfl | (refine wanted_on rfl ?_; first | (simp [yielded]; done) | rfl)) | refine ev_load S 1 ?_ (hw := by first | exact wanted_plain rfl | (refine wanted_on rfl ?_; first | (simp [yielded]; done) | rfl)) | refine ev_load S 2 ?_ (hw := by first | exact wanted_plain rfl | (refine wanted_on rfl ?_; first | (simp [yielded]; done) | rfl)) | refine ev_load S 3 ?_ (hw := by first | exact wanted_plain rfl | (refine wanted_on rfl ?_; first | (simp [yielded]; done) | rfl)) | refine ev_load S 4 ?_ (hw := by first | exact wanted_plain rfl | (refine wanted_on rfl ?_; first | (simp [yielded]; done) | rfl))) | ((with_reducible refine gate_lit rfl ?_); refine ev_lit S (opA a (.slice A a.f3.length c) ++ opA b (.slice B b.f3.length d)) 2 ?_; clear S; intro _ _ S) | (go_at_call 55; (with_reducible refine (owns_any [a, b] _ _ (GW.below HG.out S.out.below) (runC_box2 (S.out.at_ 0 rfl) (HA.out.below S.out.below) (HB.out.below S.out.below)) HF.out HLE.out).mono ?_); rintro e_ w7 ⟨rfl, hb⟩; replace S := Aside0.mk (S.out.step hb); clear hb) | ((with_reducible refine gate_st rfl ?_); (first | refine ev_store S 0 ?_ | refine ev_store S 1 ?_ | refine ev_store S 2 ?_ | refine ev_store S 3 ?_ | refine ev_store S 4 ?_); clear S; intro _ S) | (go_at_call 56; (with_reducible refine (incE_prog a b e _ _ _ (GW.below HG.out S.out.below) (HA.out.below S.out.below) (HB.out.below S.out.below) HX.out.1 HX.out.2).mono ?_); rintro e_ w7 ⟨v, rfl, hR, hb⟩; obtain ⟨Ai, ci, rfl⟩ := hR.slice; replace S := Aside0.mk (S.out.addOp hb hR); clear hb hR))
    exact bodyPost_ret (results_ct rfl _ _ _ 41 _ (0, 0) _ rfl (S.out.at_ 1 rfl) Tryd.underlying41 rfl (by kernel_rfl)) rfl ⟨_, rfl, S.out.now.2, S.out.below⟩
  · rw [if_neg h]
    have h' : (ownsE [a, b] != 0) = true := bne_iff_ne.mpr h
    have HX : Aside0 (Good a ∧ Good b → True) := ⟨fun _ => trivial⟩
    clear h fa fb
    go_enter Tryd.func26, Tryd.ntmps26
    go_wp2_with (first | ((with_reducible refine gate_box rfl ?_); refine ev_box S ?_; clear S; intro _ _ S) | ((with_reducible refine gate_new rfl ?_); refine ev_new S 41 zA ?_; clear S; intro _ _ S) | ((with_reducible refine gate_load rfl ?_); first | refine ev_load S 0 ?_ (hw := by first | exact wanted_plain rfl | (refine wanted_on rfl ?_; first | (simp [yielded]; done) | rfl)) | refine ev_load S 1 ?_ (hw := by first | exact wanted_plain rfl | (refine wanted_on rfl ?_; first | (simp [yielded]; done) | rfl)) | refine ev_load S 2 ?_ (hw := by first | exact wanted_plain rfl | (refine wanted_on rfl ?_; first | (simp [yielded]; done) | rfl)) | refine ev_load S 3 ?_ (hw := by first | exact wanted_plain rfl | (refine wanted_on rfl ?_; first | (simp [yielded]; done) | rfl)) | refine ev_load S 4 ?_ (hw := by first | exact wanted_plain rfl | (refine wanted_on rfl ?_; first | (simp [yielded]; done) | rfl))) | ((with_reducible refine gate_lit rfl ?_); refine ev_lit S (opA a (.slice A a.f3.length c) ++ opA b (.slice B b.f3.length d)) 2 ?_; clear S; intro _ _ S) | (go_at_call 55; (with_reducible refine (owns_any [a, b] _ _ (GW.below HG.out S.out.below) (runC_box2 (S.out.at_ 0 rfl) (HA.out.below S.out.below) (HB.out.below S.out.below)) HF.out HLE.out).mono ?_); rintro e_ w7 ⟨rfl, hb⟩; replace S := Aside0.mk (S.out.step hb); clear hb) | ((with_reducible refine gate_st rfl ?_); (first | refine ev_store S 0 ?_ | refine ev_store S 1 ?_ | refine ev_store S 2 ?_ | refine ev_store S 3 ?_ | refine ev_store S 4 ?_); clear S; intro _ S) | (go_at_call 56; (with_reducible refine (incE_prog a b e _ _ _ (GW.below HG.out S.out.below) (HA.out.below S.out.below) (HB.out.below S.out.below) HX.out.1 HX.out.2).mono ?_); rintro e_ w7 ⟨v, rfl, hR, hb⟩; obtain ⟨Ai, ci, rfl⟩ := hR.slice; replace S := Aside0.mk (S.out.addOp hb hR); clear hb hR))
    exact bodyPost_ret (results_ct rfl _ _ _ 41 zA (0, 0) _ rfl (S.out.at_ 1 rfl) Tryd.underlying41 rfl (by kernel_rfl)) rfl ⟨.slice none 0 0, rfl, opR_nil _ _, S.out.below⟩
set_option maxRecDepth 100000 in
set_option maxHeartbeats 4000000 in
theorem Exclude_any (a b : S41) (va vb : Value) (w : World) (hG : GW w) (ha : OpC w va a) (hb : OpC w vb b) (fa : fineOp a) (fb : fineOp b) :
    Calls Tryd.prog 58 #[.agg (opA a va), .agg (opA b vb)] w (RetOp w (wrap1 a b (excE a b))) := by
  obtain ⟨A, c, rfl, h1, h2⟩ := ha
  obtain ⟨B, d, rfl, h3, h4⟩ := hb
  have S := Aside0.mk (St.init w (F := fun _ => True) (fun _ _ => trivial))
  have HA := Aside0.mk (opC_mk h1 h2); have HB := Aside0.mk (opC_mk h3 h4)
  have HG := Aside0.mk hG
  have HF := Aside0.mk (show ∀ x ∈ [a, b], fineOp x by intro x hx; simp only [List.mem_cons, List.not_mem_nil, or_false] at hx; rcases hx with rfl | rfl <;> assumption)
  have HLE := Aside0.mk (show [a, b].length ≤ 1048576 by simp)
  unfold wrap1
  clear h1 h2 h3 h4 hG
  by_cases h : ownsE [a, b] = 0
  · rw [if_pos h]
    have HX := Aside0.mk (owns_goods h fa fb)
    have h' : (ownsE [a, b] != 0) = false := bne_eq_false_iff_eq.mpr h
    clear h fa fb
    go_enter Tryd.func58, Tryd.ntmps58
    go_wp2_with (first | ((with_reducible refine gate_box rfl ?_); refine ev_box S ?_; clear S; intro _ _ S) | ((with_reducible refine gate_new rfl ?_); refine ev_new S 41 zA ?_; clear S; intro _ _ S) | ((with_reducible refine gate_load rfl ?_); first | refine ev_load S 0 ?_ (hw := by first | exact wanted_plain rfl | (refine wanted_on rfl ?_; first | (simp [yielded]; done) | rfl)) | refine ev_load S 1 ?_ (hw := by first | exact wanted_plain rfl | (refine wanted_on rfl ?_; first | (simp [yielded]; done) | rfl)) | refine ev_load S 2 ?_ (hw := by first | exact wanted_plain rfl | (refine wanted_on rfl ?_; first | (simp [yielded]; done) | rfl)) | refine ev_load S 3 ?_ (hw := by first | exact wanted_plain rfl | (refine wanted_on rfl ?_; first | (simp [yielded]; done) | rfl)) | refine ev_load S 4 ?_ (hw := by first | exact wanted_plain rfl | (refine wanted_on rfl ?_; first | (simp [yielded]; done) | rfl))) | ((with_reducible refine gate_lit rfl ?_); refine ev_lit S (opA a (.slice A a.f3.length c) ++ opA b (.slice B b.f3.length d)) 2 ?_; clear S; intro _ _ S) | (go_at_call 55; (with_reducible refine (owns_any [a, b] _ _ (GW.below HG.out S.out.below) (runC_box2 (S.out.at_ 0 rfl) (HA.out.below S.out.below) (HB.out.below S.out.below)) HF.out HLE.out).mono ?_); rintro e_ w7 ⟨rfl, hb⟩; replace S := Aside0.mk (S.out.step hb); clear hb) | ((with_reducible refine gate_st rfl ?_); (first | refine ev_store S 0 ?_ | refine ev_store S 1 ?_ | refine ev_store S 2 ?_ | refine ev_store S 3 ?_ | refine ev_store S 4 ?_); clear S; intro _ S) | (go_at_call 75; (with_reducible refine (excE_prog a b _ _ _ (GW.below HG.out S.out.below) (HA.out.below S.out.below) (HB.out.below S.out.below) HX.out.1 HX.out.2).mono ?_); rintro e_ w7 ⟨v, rfl, hR, hb⟩; obtain ⟨Ai, ci, rfl⟩ := hR.slice; replace S := Aside0.mk (S.out.addOp hb hR); clear hb hR))
    exact bodyPost_ret (results_ct rfl _ _ _ 41 _ (0, 0) _ rfl (S.out.at_ 1 rfl) Tryd.underlying41 rfl (by kernel_rfl)) rfl ⟨_, rfl, S.out.now.2, S.out.below⟩
  · rw [if_neg h]
    have h' : (ownsE [a, b] != 0) = true := bne_iff_ne.mpr h
    have HX : Aside0 (Good a ∧ Good b → True) := ⟨fun _ => trivial⟩
    clear h fa fb
    go_enter Tryd.func58, Tryd.ntmps58
    go_wp2_with (first | ((with_reducible refine gate_box rfl ?_); refine ev_box S ?_; clear S; intro _ _ S) | ((with_reducible refine gate_new rfl ?_); refine ev_new S 41 zA ?_; clear S; intro _ _ S) | ((with_reducible refine gate_load rfl ?_); first | refine ev_load S 0 ?_ (hw := by first | exact wanted_plain rfl | (refine wanted_on rfl ?_; first | (simp [yielded]; done) | rfl)) | refine ev_load S 1 ?_ (hw := by first | exact wanted_plain rfl | (refine wanted_on rfl ?_; first | (simp [yielded]; done) | rfl)) | refine ev_load S 2 ?_ (hw := by first | exact wanted_plain rfl | (refine wanted_on rfl ?_; first | (simp [yielded]; done) | rfl)) | refine ev_load S 3 ?_ (hw := by first | exact wanted_plain rfl | (refine wanted_on rfl ?_; first | (simp [yielded]; done) | rfl)) | refine ev_load S 4 ?_ (hw := by first | exact wanted_plain rfl | (refine wanted_on rfl ?_; first | (simp [yielded]; done) | rfl))) | ((with_reducible refine gate_lit rfl ?_); refine ev_lit S (opA a (.slice A a.f3.length c) ++ opA b (.slice B b.f3.length d)) 2 ?_; clear S; intro _ _ S) | (go_at_call 55; (with_reducible refine (owns_any [a, b] _ _ (GW.below HG.out S.out.below) (runC_box2 (S.out.at_ 0 rfl) (HA.out.below S.out.below) (HB.out.below S.out.below)) HF.out HLE.out).mono ?_); rintro e_ w7 ⟨rfl, hb⟩; replace S := Aside0.mk (S.out.step hb); clear hb) | ((with_reducible refine gate_st rfl ?_); (first | refine ev_store S 0 ?_ | refine ev_store S 1 ?_ | refine ev_store S 2 ?_ | refine ev_store S 3 ?_ | refine ev_store S 4 ?_); clear S; intro _ S) | (go_at_call 75; (with_reducible refine (excE_prog a b _ _ _ (GW.below HG.out S.out.below) (HA.out.below S.out.below) (HB.out.below S.out.below) HX.out.1 HX.out.2).mono ?_); rintro e_ w7 ⟨v, rfl, hR, hb⟩; obtain ⟨Ai, ci, rfl⟩ := hR.slice; replace S := Aside0.mk (S.out.addOp hb hR); clear hb hR))
    exact bodyPost_ret (results_ct rfl _ _ _ 41 zA (0, 0) _ rfl (S.out.at_ 1 rfl) Tryd.underlying41 rfl (by kernel_rfl)) rfl ⟨.slice none 0 0, rfl, opR_nil _ _, S.out.below⟩
set_option maxRecDepth 100000 in
set_option maxHeartbeats 4000000 in
theorem Transpose_any (a b : S41) (va vb : Value) (w : World) (hG : GW w) (ha : OpC w va a) (hb : OpC w vb b) (fa : fineOp a) (fb : fineOp b) :
    Calls Tryd.prog 59 #[.agg (opA a va), .agg (opA b vb)] w (RetOp2 w (wrap2 a b (trE a b))) := by
  obtain ⟨A, c, rfl, h1, h2⟩ := ha
  obtain ⟨B, d, rfl, h3, h4⟩ := hb
  have S := Aside0.mk (St.init w (F := fun _ => True) (fun _ _ => trivial))
  have HA := Aside0.mk (opC_mk h1 h2); have HB := Aside0.mk (opC_mk h3 h4)
  have HG := Aside0.mk hG
  have HF := Aside0.mk (show ∀ x ∈ [a, b], fineOp x by intro x hx; simp only [List.mem_cons, List.not_mem_nil, or_false] at hx; rcases hx with rfl | rfl <;> assumption)
  have HLE := Aside0.mk (show [a, b].length ≤ 1048576 by simp)
  unfold wrap2
  clear h1 h2 h3 h4 hG
  by_cases h : ownsE [a, b] = 0
  · rw [if_pos h]
    have HX := Aside0.mk (owns_goods h fa fb)
    have h' : (ownsE [a, b] != 0) = false := bne_eq_false_iff_eq.mpr h
    clear h fa fb
    go_enter Tryd.func59, Tryd.ntmps59
    go_wp2_with (first | ((with_reducible refine gate_box rfl ?_); refine ev_box S ?_; clear S; intro _ _ S) | ((with_reducible refine gate_new rfl ?_); refine ev_new S 41 zA ?_; clear S; intro _ _ S) | ((with_reducible refine gate_load rfl ?_); first | refine ev_load S 0 ?_ (hw := by first | exact wanted_plain rfl | (refine wanted_on rfl ?_; first | (simp [yielded]; done) | rfl)) | refine ev_load S 1 ?_ (hw := by first | exact wanted_plain rfl | (refine wanted_on rfl ?_; first | (simp [yielded]; done) | rfl)) | refine ev_load S 2 ?_ (hw := by first | exact wanted_plain rfl | (refine wanted_on rfl ?_; first | (simp [yielded]; done) | rfl)) | refine ev_load S 3 ?_ (hw := by first | exact wanted_plain rfl | (refine wanted_on rfl ?_; first | (simp [yielded]; done) | rfl)) | refine ev_load S 4 ?_ (hw := by first | exact wanted_plain rfl | (refine wanted_on rfl ?_; first | (simp [yielded]; done) | rfl))) | ((with_reducible refine gate_lit rfl ?_); refine ev_lit S (opA a (.slice A a.f3.length c) ++ opA b (.slice B b.f3.length d)) 2 ?_; clear S; intro _ _ S) | (go_at_call 55; (with_reducible refine (owns_any [a, b] _ _ (GW.below HG.out S.out.below) (runC_box2 (S.out.at_ 0 rfl) (HA.out.below S.out.below) (HB.out.below S.out.below)) HF.out HLE.out).mono ?_); rintro e_ w7 ⟨rfl, hb⟩; replace S := Aside0.mk (S.out.step hb); clear hb) | ((with_reducible refine gate_st rfl ?_); (first | refine ev_store S 0 ?_ | refine ev_store S 1 ?_ | refine ev_store S 2 ?_ | refine ev_store S 3 ?_ | refine ev_store S 4 ?_); clear S; intro _ S) | (go_at_call 62; (with_reducible refine (trE_prog a b _ _ _ (GW.below HG.out S.out.below) (HA.out.below S.out.below) (HB.out.below S.out.below) HX.out.1 HX.out.2).mono ?_); rintro e_ w7 ⟨v, v2, rfl, hR, hR2, hb⟩; obtain ⟨Ai, ci, rfl⟩ := hR.slice; obtain ⟨Aj, cj, rfl⟩ := hR2.slice; replace S := Aside0.mk (S.out.addR2 hb hR hR2); clear hb hR hR2))
    exact bodyPost_ret (results_cct rfl _ _ _ _ 41 41 _ _ (0, 0) (0, 0) _ _ rfl (S.out.at_ 2 rfl) Tryd.underlying41 rfl (by kernel_rfl) rfl (S.out.at_ 1 rfl) Tryd.underlying41 rfl (by kernel_rfl)) rfl ⟨_, _, rfl, S.out.now.1.2, S.out.now.2, S.out.below⟩
  · rw [if_neg h]
    have h' : (ownsE [a, b] != 0) = true := bne_iff_ne.mpr h
    have HX : Aside0 (Good a ∧ Good b → True) := ⟨fun _ => trivial⟩
    clear h fa fb
    go_enter Tryd.func59, Tryd.ntmps59
    go_wp2_with (first | ((with_reducible refine gate_box rfl ?_); refine ev_box S ?_; clear S; intro _ _ S) | ((with_reducible refine gate_new rfl ?_); refine ev_new S 41 zA ?_; clear S; intro _ _ S) | ((with_reducible refine gate_load rfl ?_); first | refine ev_load S 0 ?_ (hw := by first | exact wanted_plain rfl | (refine wanted_on rfl ?_; first | (simp [yielded]; done) | rfl)) | refine ev_load S 1 ?_ (hw := by first | exact wanted_plain rfl | (refine wanted_on rfl ?_; first | (simp [yielded]; done) | rfl)) | refine ev_load S 2 ?_ (hw := by first | exact wanted_plain rfl | (refine wanted_on rfl ?_; first | (simp [yielded]; done) | rfl)) | refine ev_load S 3 ?_ (hw := by first | exact wanted_plain rfl | (refine wanted_on rfl ?_; first | (simp [yielded]; done) | rfl)) | refine ev_load S 4 ?_ (hw := by first | exact wanted_plain rfl | (refine wanted_on rfl ?_; first | (simp [yielded]; done) | rfl))) | ((with_reducible refine gate_lit rfl ?_); refine ev_lit S (opA a (.slice A a.f3.length c) ++ opA b (.slice B b.f3.length d)) 2 ?_; clear S; intro _ _ S) | (go_at_call 55; (with_reducible refine (owns_any [a, b] _ _ (GW.below HG.out S.out.below) (runC_box2 (S.out.at_ 0 rfl) (HA.out.below S.out.below) (HB.out.below S.out.below)) HF.out HLE.out).mono ?_); rintro e_ w7 ⟨rfl, hb⟩; replace S := Aside0.mk (S.out.step hb); clear hb) | ((with_reducible refine gate_st rfl ?_); (first | refine ev_store S 0 ?_ | refine ev_store S 1 ?_ | refine ev_store S 2 ?_ | refine ev_store S 3 ?_ | refine ev_store S 4 ?_); clear S; intro _ S) | (go_at_call 62; (with_reducible refine (trE_prog a b _ _ _ (GW.below HG.out S.out.below) (HA.out.below S.out.below) (HB.out.below S.out.below) HX.out.1 HX.out.2).mono ?_); rintro e_ w7 ⟨v, v2, rfl, hR, hR2, hb⟩; obtain ⟨Ai, ci, rfl⟩ := hR.slice; obtain ⟨Aj, cj, rfl⟩ := hR2.slice; replace S := Aside0.mk (S.out.addR2 hb hR hR2); clear hb hR hR2))
    exact bodyPost_ret (results_cct rfl _ _ _ _ 41 41 zA zA (0, 0) (0, 0) _ _ rfl (S.out.at_ 2 rfl) Tryd.underlying41 rfl (by kernel_rfl) rfl (S.out.at_ 1 rfl) Tryd.underlying41 rfl (by kernel_rfl)) rfl ⟨.slice none 0 0, .slice none 0 0, rfl, opR_nil _ _, opR_nil _ _, S.out.below⟩
end Go.Proofs.YtloccjkcmlkifaaDoor
end

section
/- The document's Include, Exclude, Transpose, told of whole operations. -/

namespace Go.Proofs.YtloccjkcmlkifaaDoor
open Go.RowKit Go.Proofs.YtloccjkcmlkifaaDoor.PAll Go.Proofs.YtloccjkcmlkifaaDoorW.PrintWords Go.Proofs.YtloccjkcmlkifaaDoorW.PrintLast

set_option maxRecDepth 100000 in
set_option maxHeartbeats 4000000 in
theorem rInclude_any (a b : S41) (e : Bool) (va vb : Value) (w : World) (ha : OpC w va a) (hb : OpC w vb b) (fa : fineOp a) (fb : fineOp b) :
    Calls Tryd.prog 77 #[.agg (opA a va), .agg (opA b vb), .bool e] w (RetOp w (wrap1 a b (incE a b e))) := by
  obtain ⟨A, c, rfl, h1, h2⟩ := ha
  obtain ⟨B, d, rfl, h3, h4⟩ := hb
  have S := Aside0.mk (St.init w (F := fun _ => True) (fun _ _ => trivial))
  have HA := Aside0.mk (opC_mk h1 h2); have HB := Aside0.mk (opC_mk h3 h4)
  have HF := Aside0.mk (show ∀ x ∈ [a, b], fineOp x by intro x hx; simp only [List.mem_cons, List.not_mem_nil, or_false] at hx; rcases hx with rfl | rfl <;> assumption)
  have HLE := Aside0.mk (show [a, b].length ≤ 1048576 by simp)
  unfold wrap1
  clear h1 h2 h3 h4
  by_cases h : ownsE [a, b] = 0
  · rw [if_pos h]
    have HX := Aside0.mk (owns_goods h fa fb)
    have h' : (ownsE [a, b] != 0) = false := bne_eq_false_iff_eq.mpr h
    clear h fa fb
    go_enter Tryd.func77, Tryd.ntmps77
    go_wp2_with (first | ((with_reducible refine gate_box rfl ?_); refine ev_box S ?_; clear S; intro _ _ S) | ((with_reducible refine gate_new rfl ?_); refine ev_new S 41 zA ?_; clear S; intro _ _ S) | ((with_reducible refine gate_load rfl ?_); first | refine ev_load S 0 ?_ (hw := by first | exact wanted_plain rfl | (refine wanted_on rfl ?_; first | (simp [yielded]; done) | rfl)) | refine ev_load S 1 ?_ (hw := by first | exact wanted_plain rfl | (refine wanted_on rfl ?_; first | (simp [yielded]; done) | rfl)) | refine ev_load S 2 ?_ (hw := by first | exact wanted_plain rfl | (refine wanted_on rfl ?_; first | (simp [yielded]; done) | rfl)) | refine ev_load S 3 ?_ (hw := by first | exact wanted_plain rfl | (refine wanted_on rfl ?_; first | (simp [yielded]; done) | rfl)) | refine ev_load S 4 ?_ (hw := by first | exact wanted_plain rfl | (refine wanted_on rfl ?_; first | (simp [yielded]; done) | rfl))) | ((with_reducible refine gate_lit rfl ?_); refine ev_lit S (opA a (.slice A a.f3.length c) ++ opA b (.slice B b.f3.length d)) 2 ?_; clear S; intro _ _ S) | (go_at_call 95; (with_reducible refine (rowns_any [a, b] _ _ (runC_box2 (S.out.at_ 0 rfl) (HA.out.below S.out.below) (HB.out.below S.out.below)) HF.out HLE.out).mono ?_); rintro e_ w7 ⟨rfl, hb⟩; replace S := Aside0.mk (S.out.step hb); clear hb) | ((with_reducible refine gate_st rfl ?_); (first | refine ev_store S 0 ?_ | refine ev_store S 1 ?_ | refine ev_store S 2 ?_ | refine ev_store S 3 ?_ | refine ev_store S 4 ?_); clear S; intro _ S) | (go_at_call 96; (with_reducible refine (incE_ref a b e _ _ _ (HA.out.below S.out.below) (HB.out.below S.out.below) HX.out.1 HX.out.2).mono ?_); rintro e_ w7 ⟨v, rfl, hR, hb⟩; obtain ⟨Ai, ci, rfl⟩ := hR.slice; replace S := Aside0.mk (S.out.addOp hb hR); clear hb hR))
    exact bodyPost_ret (results_ct rfl _ _ _ 41 _ (0, 0) _ rfl (S.out.at_ 1 rfl) Tryd.underlying41 rfl (by kernel_rfl)) rfl ⟨_, rfl, S.out.now.2, S.out.below⟩
  · rw [if_neg h]
    have h' : (ownsE [a, b] != 0) = true := bne_iff_ne.mpr h
    have HX : Aside0 (Good a ∧ Good b → True) := ⟨fun _ => trivial⟩
    clear h fa fb
    go_enter Tryd.func77, Tryd.ntmps77
    go_wp2_with (first | ((with_reducible refine gate_box rfl ?_); refine ev_box S ?_; clear S; intro _ _ S) | ((with_reducible refine gate_new rfl ?_); refine ev_new S 41 zA ?_; clear S; intro _ _ S) | ((with_reducible refine gate_load rfl ?_); first | refine ev_load S 0 ?_ (hw := by first | exact wanted_plain rfl | (refine wanted_on rfl ?_; first | (simp [yielded]; done) | rfl)) | refine ev_load S 1 ?_ (hw := by first | exact wanted_plain rfl | (refine wanted_on rfl ?_; first | (simp [yielded]; done) | rfl)) | refine ev_load S 2 ?_ (hw := by first | exact wanted_plain rfl | (refine wanted_on rfl ?_; first | (simp [yielded]; done) | rfl)) | refine ev_load S 3 ?_ (hw := by first | exact wanted_plain rfl | (refine wanted_on rfl ?_; first | (simp [yielded]; done) | rfl)) | refine ev_load S 4 ?_ (hw := by first | exact wanted_plain rfl | (refine wanted_on rfl ?_; first | (simp [yielded]; done) | rfl))) | ((with_reducible refine gate_lit rfl ?_); refine ev_lit S (opA a (.slice A a.f3.length c) ++ opA b (.slice B b.f3.length d)) 2 ?_; clear S; intro _ _ S) | (go_at_call 95; (with_reducible refine (rowns_any [a, b] _ _ (runC_box2 (S.out.at_ 0 rfl) (HA.out.below S.out.below) (HB.out.below S.out.below)) HF.out HLE.out).mono ?_); rintro e_ w7 ⟨rfl, hb⟩; replace S := Aside0.mk (S.out.step hb); clear hb) | ((with_reducible refine gate_st rfl ?_); (first | refine ev_store S 0 ?_ | refine ev_store S 1 ?_ | refine ev_store S 2 ?_ | refine ev_store S 3 ?_ | refine ev_store S 4 ?_); clear S; intro _ S) | (go_at_call 96; (with_reducible refine (incE_ref a b e _ _ _ (HA.out.below S.out.below) (HB.out.below S.out.below) HX.out.1 HX.out.2).mono ?_); rintro e_ w7 ⟨v, rfl, hR, hb⟩; obtain ⟨Ai, ci, rfl⟩ := hR.slice; replace S := Aside0.mk (S.out.addOp hb hR); clear hb hR))
    exact bodyPost_ret (results_ct rfl _ _ _ 41 zA (0, 0) _ rfl (S.out.at_ 1 rfl) Tryd.underlying41 rfl (by kernel_rfl)) rfl ⟨.slice none 0 0, rfl, opR_nil _ _, S.out.below⟩
end Go.Proofs.YtloccjkcmlkifaaDoor
end

section
/- Two operations that are one are told equal: redraftref04.Equal, and what is made of it. -/
namespace Go.Proofs.YtloccjkcmlkifaaDoor
open Go.RowKit Go.Proofs.YtloccjkcmlkifaaDoor.PAll Go.Proofs.YtloccjkcmlkifaaDoorW.PrintWords Go.Proofs.YtloccjkcmlkifaaDoorW.PrintLast

def Yes (w : World) : Ending → World → Prop := fun e w' => e = .returned (.bool true) ∧ Below w.heap.size w w'
theorem same_loop (l : List S94) (hl : l.length ≤ 4611686018427387904) : ∀ (d k i : Nat), l.length = i + d → d + 1 ≤ k → redraftref04_Same.l0 k l l (i : Int) = some true := by
  intro d
  induction d with
  | zero =>
    intro k i h hk
    obtain ⟨k, rfl⟩ : ∃ m, k = m + 1 := ⟨k - 1, by omega⟩
    rw [redraftref04_Same.l0, if_neg (by omega)]
  | succ d ih =>
    intro k i h hk
    obtain ⟨k, rfl⟩ : ∃ m, k = m + 1 := ⟨k - 1, by omega⟩
    have q1 : (i : Int) < (l.length : Int) := by omega
    have q2 : (0 : Int) ≤ (i : Int) := by omega
    have w : wrap64 ((i : Int) + 1) = ((i + 1 : Nat) : Int) := by rw [wrap_id (by omega) (by omega)]; omega
    rw [redraftref04_Same.l0, if_pos q1, if_pos q2, if_pos q1, if_pos rfl, if_pos rfl, w]
    exact ih k (i + 1) (by omega) (by omega)
theorem same_any (o : S41) (v u : Value) (w : World) (hv : OpC w v o) (hu : OpC w u o) (hl : o.f3.length ≤ 4611686018427387904) :
    Calls Tryd.prog 76 #[v, u] w (Yes w) := by
  obtain ⟨A, c, rfl, h1, h2⟩ := hv
  obtain ⟨B, d, rfl, h3, h4⟩ := hu
  refine (redraftref04_Same.calls (o.f3.length + 1) A c o.f3 B d o.f3 true w h2 h1 h4 h3 ?_).mono fun e w2 h => ⟨h.1, h.2.below⟩
  unfold redraftref04_Same.f
  rw [if_pos rfl]
  exact same_loop o.f3 hl o.f3.length _ 0 (by omega) (Nat.le_refl _)
set_option maxRecDepth 100000 in
set_option maxHeartbeats 8000000 in
theorem equal_any (o : S41) (v u : Value) (w : World) (hv : OpC w v o) (hu : OpC w u o) (hl : o.f3.length ≤ 4611686018427387904) :
    Calls Tryd.prog 65 #[.agg (opA o v), .agg (opA o u)] w (Yes w) := by
  obtain ⟨A, c, rfl, h1, h2⟩ := hv
  obtain ⟨B, d, rfl, h3, h4⟩ := hu
  have S := Aside0.mk (St.init w (F := fun _ => True) (fun _ _ => trivial))
  have HV := Aside0.mk (opC_mk h1 h2); have HU := Aside0.mk (opC_mk h3 h4); have HL := Aside0.mk hl
  clear h1 h2 h3 h4 hl
  go_enter Tryd.func65, Tryd.ntmps65
  go_wp2_with (first | ((go_at_call 76; (with_reducible refine (same_any o _ _ _ (HV.out.below S.out.below) (HU.out.below S.out.below) HL.out).mono ?_); rintro e_ w7 ⟨rfl, hb⟩; replace S := Aside0.mk (S.out.step hb); clear hb); refine Hid.out ?_) | ((with_reducible refine gate_box rfl ?_); refine ev_box S ?_; clear S; intro _ _ S) | ((with_reducible refine gate_load rfl ?_); first | refine ev_load S 0 ?_ (hw := by first | exact wanted_plain rfl | (refine wanted_on rfl ?_; first | (simp [yielded]; done) | rfl)) | refine ev_load S 1 ?_ (hw := by first | exact wanted_plain rfl | (refine wanted_on rfl ?_; first | (simp [yielded]; done) | rfl)) | refine ev_load S 2 ?_ (hw := by first | exact wanted_plain rfl | (refine wanted_on rfl ?_; first | (simp [yielded]; done) | rfl)) | refine ev_load S 3 ?_ (hw := by first | exact wanted_plain rfl | (refine wanted_on rfl ?_; first | (simp [yielded]; done) | rfl))) | ((with_reducible refine gate_load rfl ?_); first | refine ev_fld S 0 ?_ (hw := by first | exact wanted_plain rfl | (refine wanted_on rfl ?_; first | (simp [yielded]; done) | rfl)) | refine ev_fld S 1 ?_ (hw := by first | exact wanted_plain rfl | (refine wanted_on rfl ?_; first | (simp [yielded]; done) | rfl)) | refine ev_fld S 2 ?_ (hw := by first | exact wanted_plain rfl | (refine wanted_on rfl ?_; first | (simp [yielded]; done) | rfl)) | refine ev_fld S 3 ?_ (hw := by first | exact wanted_plain rfl | (refine wanted_on rfl ?_; first | (simp [yielded]; done) | rfl))) | (go_at_call 76; (with_reducible refine (same_any o _ _ _ (HV.out.below S.out.below) (HU.out.below S.out.below) HL.out).mono ?_); rintro e_ w7 ⟨rfl, hb⟩; replace S := Aside0.mk (S.out.step hb); clear hb))
  refine Lib.hid ?_
  dsimp only [List.append] at *
  go_wp2_with (first | ((with_reducible refine gate_box rfl ?_); refine ev_box S ?_; clear S; intro _ _ S) | ((with_reducible refine gate_load rfl ?_); first | refine ev_load S 0 ?_ (hw := by first | exact wanted_plain rfl | (refine wanted_on rfl ?_; first | (simp [yielded]; done) | rfl)) | refine ev_load S 1 ?_ (hw := by first | exact wanted_plain rfl | (refine wanted_on rfl ?_; first | (simp [yielded]; done) | rfl)) | refine ev_load S 2 ?_ (hw := by first | exact wanted_plain rfl | (refine wanted_on rfl ?_; first | (simp [yielded]; done) | rfl)) | refine ev_load S 3 ?_ (hw := by first | exact wanted_plain rfl | (refine wanted_on rfl ?_; first | (simp [yielded]; done) | rfl))) | ((with_reducible refine gate_load rfl ?_); first | refine ev_fld S 0 ?_ (hw := by first | exact wanted_plain rfl | (refine wanted_on rfl ?_; first | (simp [yielded]; done) | rfl)) | refine ev_fld S 1 ?_ (hw := by first | exact wanted_plain rfl | (refine wanted_on rfl ?_; first | (simp [yielded]; done) | rfl)) | refine ev_fld S 2 ?_ (hw := by first | exact wanted_plain rfl | (refine wanted_on rfl ?_; first | (simp [yielded]; done) | rfl)) | refine ev_fld S 3 ?_ (hw := by first | exact wanted_plain rfl | (refine wanted_on rfl ?_; first | (simp [yielded]; done) | rfl))) | (go_at_call 76; (with_reducible refine (same_any o _ _ _ (HV.out.below S.out.below) (HU.out.below S.out.below) HL.out).mono ?_); rintro e_ w7 ⟨rfl, hb⟩; replace S := Aside0.mk (S.out.step hb); clear hb))
  go_ret
  exact ⟨rfl, S.out.below⟩
set_option maxRecDepth 100000 in
theorem sameOp_any (o : S41) (v u : Value) (w : World) (hv : OpC w v o) (hu : OpC w u o) (hl : o.f3.length ≤ 4611686018427387904) :
    Calls Tryd.prog 43 #[.agg (opA o v), .agg (opA o u)] w (Yes w) := by
  have S := Aside0.mk (St.init w (F := fun _ => True) (fun _ _ => trivial))
  have HV := Aside0.mk hv; have HU := Aside0.mk hu; have HL := Aside0.mk hl
  clear hv hu hl
  go_enter Tryd.func43, Tryd.ntmps43
  go_wp2_with (first | ((with_reducible refine gate_box rfl ?_); refine ev_box S ?_; clear S; intro _ _ S) | ((with_reducible refine gate_load rfl ?_); first | refine ev_load S 0 ?_ (hw := by first | exact wanted_plain rfl | (refine wanted_on rfl ?_; first | (simp [yielded]; done) | rfl)) | refine ev_load S 1 ?_ (hw := by first | exact wanted_plain rfl | (refine wanted_on rfl ?_; first | (simp [yielded]; done) | rfl)) | refine ev_load S 2 ?_ (hw := by first | exact wanted_plain rfl | (refine wanted_on rfl ?_; first | (simp [yielded]; done) | rfl)) | refine ev_load S 3 ?_ (hw := by first | exact wanted_plain rfl | (refine wanted_on rfl ?_; first | (simp [yielded]; done) | rfl))) | (go_at_call 65; (with_reducible refine (equal_any o _ _ _ (HV.out.below S.out.below) (HU.out.below S.out.below) HL.out).mono ?_); rintro e_ w7 ⟨rfl, hb⟩; replace S := Aside0.mk (S.out.step hb); clear hb))
  go_ret
  exact ⟨rfl, S.out.below⟩
theorem num_any (e : Int) (w : World) : Calls Tryd.prog 23 #[.int .i64 e] w fun e' w' => e' = .returned (.int .i64 e) ∧ Below w.heap.size w w' := by
  go_enter Tryd.func23, Tryd.ntmps23
  go_wp2
  go_ret
  exact ⟨rfl, Below.refl _ _⟩
theorem one_any (o : S41) (e : Int) (v u : Value) (w : World) (hv : OpC w v o) (hu : OpC w u o) (hl : o.f3.length ≤ 4611686018427387904) :
    Calls Tryd.prog 78 #[.agg (opA o v), .int .i64 e, .agg (opA o u), .int .i64 e] w (Yes w) := by
  have S := Aside0.mk (St.init w (F := fun _ => True) (fun _ _ => trivial))
  have HV := Aside0.mk hv; have HU := Aside0.mk hu; have HL := Aside0.mk hl
  clear hv hu hl
  go_enter Tryd.func78, Tryd.ntmps78
  go_wp2_with (first | ((with_reducible refine gate_box rfl ?_); refine ev_box S ?_; clear S; intro _ _ S) | ((with_reducible refine gate_load rfl ?_); first | refine ev_load S 0 ?_ (hw := by first | exact wanted_plain rfl | (refine wanted_on rfl ?_; first | (simp [yielded]; done) | rfl)) | refine ev_load S 1 ?_ (hw := by first | exact wanted_plain rfl | (refine wanted_on rfl ?_; first | (simp [yielded]; done) | rfl)) | refine ev_load S 2 ?_ (hw := by first | exact wanted_plain rfl | (refine wanted_on rfl ?_; first | (simp [yielded]; done) | rfl)) | refine ev_load S 3 ?_ (hw := by first | exact wanted_plain rfl | (refine wanted_on rfl ?_; first | (simp [yielded]; done) | rfl))) | (go_at_call 43; (with_reducible refine (sameOp_any o _ _ _ (HV.out.below S.out.below) (HU.out.below S.out.below) HL.out).mono ?_); rintro e_ w7 ⟨rfl, hb⟩; replace S := Aside0.mk (S.out.step hb); clear hb) | (go_at_call 23; (with_reducible refine (num_any _ _).mono ?_); rintro e_ w7 ⟨rfl, hb⟩; replace S := Aside0.mk (S.out.step hb); clear hb))
  go_ret
  exact ⟨rfl, S.out.below⟩
end Go.Proofs.YtloccjkcmlkifaaDoor
end

section
/- A script's step as a value; what the laws ask of two answers that are one. -/
namespace Go.Proofs.YtloccjkcmlkifaaDoor
open Go.RowKit Go.Proofs.YtloccjkcmlkifaaDoor.PAll Go.Proofs.YtloccjkcmlkifaaDoorW.PrintWords Go.Proofs.YtloccjkcmlkifaaDoorW.PrintLast

abbrev stA (s : S100) (va vb vr vo : Value) : Array Value := #[.int .i64 s.f0, .int .i64 s.f1.f0.f0.f0, .int .i64 s.f1.f0.f0.f1, .int .i64 s.f1.f0.f1, .int .i64 s.f1.f1, .string s.f1.f2, va, .int .i64 s.f1.f4.f0, .int .i64 s.f1.f4.f1, .bool s.f1.f5,
  .int .i64 s.f2.f0.f0.f0, .int .i64 s.f2.f0.f0.f1, .int .i64 s.f2.f0.f1, .int .i64 s.f2.f1, .string s.f2.f2, vb, .int .i64 s.f2.f4.f0, .int .i64 s.f2.f4.f1, .bool s.f2.f5, vr, vo, .bool s.f5, .int .i64 s.f6, .int .i64 s.f7]
structure StepC (w : World) (va vb vr vo : Value) (s : S100) : Prop where
  a : OpC w va s.f1
  b : OpC w vb s.f2
  r : RunC w vr s.f3
  o : RunC w vo s.f4
theorem StepC.below {w w' : World} {va vb vr vo : Value} {s : S100} (h : StepC w va vb vr vo s) (hb : Below w.heap.size w w') : StepC w' va vb vr vo s := ⟨h.a.below hb, h.b.below hb, h.r.below hb, h.o.below hb⟩
theorem atL_sub {w : World} {g : Nat} {t : TypeId} {cs : Array Value} (h : w.heap[g]? = some (.cells cs t (0, 0))) (j : Nat) (sub : List Value) (hs : sub = (cs.toList.drop j).take sub.length) : atL w ⟨g, j, none⟩ 0 sub :=
  atL_mk fun i v hv => by
    have hadd : (⟨g, j, none⟩ : Addr).add (0 + i) = ⟨g, j + i, none⟩ := by
      rw [Nat.zero_add]; unfold Addr.add
      by_cases hi0 : i = 0
      · rw [if_pos hi0, hi0, Nat.add_zero]
      · rw [if_neg hi0]
    rw [hadd, blk_cell h]
    rw [hs] at hv
    have hi : i < sub.length := by
      have := (List.getElem?_eq_some_iff.1 hv).1
      simp at this; omega
    rw [List.getElem?_take_of_lt hi, List.getElem?_drop] at hv
    simpa using hv
section
variable {P : Program} {ops : Array Oper} {rest : List Oper} {o : Oper} {a a' : Act} {Q : Exit → Act → World → Prop} {w0 W w : World} {bs : List Bx} {F : World → Prop} {g : Nat} {t : TypeId} {cs : Array Value}
theorem ev_sub (S : Aside0 (St w0 W bs F)) (i : Nat) (sub : Array Value) {N j : Nat} {ty : TypeId} {x : Operand} {d : TypeDesc}
    (h : wpList P ops Q rest (a.put (some N) (.agg sub)) W)
    (ho : o.op = .load ty x := by rfl) (hx : a.eval x = .pointer (some ⟨g, j, none⟩) := by rfl) (e : bs[i]? = some (g, t, cs) := by rfl) (hd : o.dst = some N := by rfl)
    (hs : sub.toList = (cs.toList.drop j).take sub.toList.length := by rfl)
    (hw : Region.wanted o (yielded ops a.tmps) = true := by first | exact wanted_plain rfl | (refine wanted_on rfl ?_; simp [yielded])) (hu : P.underlying ty = some d := by exact Tryd.underlying41) (hdd : (match d with | .struct _ | .array _ _ => true | _ => false) = true := by rfl) (hi : (P.info? ty).map (·.size) = some sub.size := by kernel_rfl) : wpList P ops Q (o :: rest) a W :=
  ev_ext sub (atL_sub (S.out.at_ i e) j sub.toList hs) h ho hx hd hw hu hdd hi
variable {md : Region.Mode} {S : World → Prop} {ds : List Nat} {fuel : Nat} {l : Array Bool} {oi : Oper} {N : Tmp}
theorem sb_ (i k : Nat) (sub : Array Value) {j : Nat} {ty : TypeId} {x : Operand} {d : TypeDesc} (hS : S w) (hSt : ∀ w, S w → St w0 w bs F)
    (h : wpAnyLast P md ops Q S ds fuel (l.setIfInBounds i true) a' w)
    (hi : ops[i]? = some oi := by rfl) (hN : oi.dst = some N := by rfl) (hc : takeB md ops ds l (l.setIfInBounds i true) i = true := by kernel_rfl)
    (ho : oi.op = .load ty x := by rfl) (hx : a.eval x = .pointer (some ⟨g, j, none⟩) := by rfl) (e : bs[k]? = some (g, t, cs) := by rfl)
    (hsu : sub.toList = (cs.toList.drop j).take sub.toList.length := by rfl)
    (hw : Region.wanted oi (yielded ops a.tmps) = true := by first | exact wanted_plain rfl | (refine wanted_on rfl ?_; simp [yielded]))
    (hu : P.underlying ty = some d := by exact Tryd.underlying41) (hdd : (match d with | .struct _ | .array _ _ => true | _ => false) = true := by rfl) (hs : (P.info? ty).map (·.size) = some sub.size := by kernel_rfl)
    (ha : a.put (some N) (.agg sub) = a' := by (simp only [Act.put, List.setIfInBounds_toArray, List.set_cons_zero, List.set_cons_succ]; rfl))
    (hQ : ∀ c a w, Q (.panic c) (a.put oi.dst (.agg sub)) w → Q (.panic c) a w := by exact fun _ _ _ h => h) : wpAnyLast P md ops Q S ds (fuel + 1) l a w :=
  le_ i sub hS (fun w' hS' => atL_sub ((hSt w' hS').at_ k e) j sub.toList hsu) h hi hN hc ho hx hw hu hdd hs ha hQ
end
def OwnRun (w : World) (base : Nat) (v : Value) (l : List S41) : Prop := Kd.S k41 41 w base (fun _ => True) v l
theorem OwnRun.C {w : World} {base : Nat} {v : Value} {l : List S41} (h : OwnRun w base v l) : RunC w v l := Kd.S_reads h
end Go.Proofs.YtloccjkcmlkifaaDoor
end

section
/- A script is played: each of its steps of the kinds asked is answered as it must be. -/
namespace Go.Proofs.YtloccjkcmlkifaaDoor
open Go.RowKit Go.Proofs.YtloccjkcmlkifaaDoor.PAll Go.Proofs.YtloccjkcmlkifaaDoorW.PrintWords Go.Proofs.YtloccjkcmlkifaaDoorW.PrintLast

abbrev PlaysYes (s : S100) : Prop := ∀ (va vb vr vo : Value) (w : World), GW w → StepC w va vb vr vo s → Calls Tryd.prog 68 #[.agg (stA s va vb vr vo)] w (Yes w)
theorem elem_S {w : World} {A : Option Addr} {l : List S100} (h : k100.C w A l.length l) (i : Nat) (hi : i < l.length) :
    ∃ ad va vb vr vo, A = some ad ∧ (∀ W, Below w.heap.size w W → atL W (ad.add (i * 24)) 0 (stA (l.getD i z100) va vb vr vo).toList) ∧ StepC w va vb vr vo (l.getD i z100) := by
  obtain ⟨ad, c, e, _, hK, hc⟩ := Kd.C_get h z100 (i : Int) (by omega) (by omega)
  rw [Int.toNat_natCast] at hK hc
  obtain ⟨A6, c6, A15, c15, A19, c19, A20, c20, rfl, l6, g6, l15, g15, l19, g19, l20, g20⟩ := k100_open hK
  refine ⟨ad, _, _, _, _, e, fun W hb => atL_mk fun j v hj => ?_, ⟨opC_mk l6 g6, opC_mk l15 g15, runC_mk l19 g19, runC_mk l20 g20⟩⟩
  have := hc j v hj
  have h2 : W.cell? (ad.add (i * 24 + j)) = some v := pw_cell_below hb this
  have h3 : (ad.add (i * 24)).add (0 + j) = ad.add (i * 24 + j) := by
    by_cases hj0 : j = 0
    · subst hj0
      rfl
    · rw [add_field ad (i * 24) j (by omega)]
      unfold Addr.add
      rw [if_neg (by omega), Nat.zero_add]
  rw [h3]; exact h2
abbrev zS : Array Value := #[.int .i64 0, .int .i64 0, .int .i64 0, .int .i64 0, .int .i64 0, .string ⟨#[]⟩, .slice none 0 0, .int .i64 0, .int .i64 0, .bool false, .int .i64 0, .int .i64 0, .int .i64 0, .int .i64 0, .string ⟨#[]⟩, .slice none 0 0, .int .i64 0, .int .i64 0, .bool false, .slice none 0 0, .slice none 0 0, .bool false, .int .i64 0, .int .i64 0]
set_option maxRecDepth 100000 in
set_option maxHeartbeats 4000000 in
theorem played_any (l : List S100) (lo hi : Int) (A : Option Addr) (c : Nat) (w : World) (hG : GW w) (hl : l.length ≤ 1048576) (h : k100.C w A l.length l) (hP : ∀ s ∈ l, lo ≤ s.f0 → s.f0 ≤ hi → PlaysYes s) :
    Calls Tryd.prog 51 #[.slice A l.length c, .int .i64 lo, .int .i64 hi] w (Yes w) := by
  have HE := Aside0.mk (fun i hi => elem_S h i hi)
  have HG := Aside0.mk hG; have HP := Aside0.mk hP
  obtain ⟨n, hn⟩ : ∃ n, n = l.length := ⟨_, rfl⟩
  rw [← hn] at hl ⊢
  have HN := Aside0.mk hn
  have S := Aside0.mk (St.init w (F := fun _ => True) (fun _ _ => trivial))
  clear hG hP h hn
  go_enter Tryd.func51, Tryd.ntmps51
  go_wp2_with (first | ((with_reducible refine gate_box rfl ?_); refine ev_box S ?_; clear S; intro _ _ S) | ((with_reducible refine gate_new rfl ?_); refine ev_new S 100 zS ?_; clear S; intro _ _ S) | ((with_reducible refine gate_load rfl ?_); first | refine ev_load S 0 ?_ (hw := by first | exact wanted_plain rfl | (refine wanted_on rfl ?_; first | (simp [yielded]; done) | rfl)) | refine ev_load S 1 ?_ (hw := by first | exact wanted_plain rfl | (refine wanted_on rfl ?_; first | (simp [yielded]; done) | rfl)) | refine ev_load S 2 ?_ (hw := by first | exact wanted_plain rfl | (refine wanted_on rfl ?_; first | (simp [yielded]; done) | rfl)) | refine ev_load S 3 ?_ (hw := by first | exact wanted_plain rfl | (refine wanted_on rfl ?_; first | (simp [yielded]; done) | rfl))) | ((with_reducible refine gate_load rfl ?_); first | refine ev_fld S 0 ?_ (hw := by first | exact wanted_plain rfl | (refine wanted_on rfl ?_; first | (simp [yielded]; done) | rfl)) | refine ev_fld S 1 ?_ (hw := by first | exact wanted_plain rfl | (refine wanted_on rfl ?_; first | (simp [yielded]; done) | rfl)) | refine ev_fld S 2 ?_ (hw := by first | exact wanted_plain rfl | (refine wanted_on rfl ?_; first | (simp [yielded]; done) | rfl)) | refine ev_fld S 3 ?_ (hw := by first | exact wanted_plain rfl | (refine wanted_on rfl ?_; first | (simp [yielded]; done) | rfl))) | ((with_reducible refine gate_load rfl ?_); refine ev_ext _ (HAT.out _ S.out.below) ?_) | ((with_reducible refine gate_st rfl ?_); (first | refine ev_store S 0 ?_ | refine ev_store S 1 ?_ | refine ev_store S 2 ?_); clear S; intro _ S) | (go_at_call 68; (with_reducible refine (HPX.out _ _ _ _ _ (GW.below HG.out S.out.below) (HST.out.below S.out.below)).mono ?_); rintro e_ w7 ⟨rfl, hb⟩; replace S := Aside0.mk (S.out.step hb); clear hb))
  go_loopw [7] (fun i' wr => ∃ k : Nat, k ≤ n ∧ i' = .int .i64 (k : Int) ∧ Aside0 (St w wr [] (fun _ => True))) (fun i' _ => n - (intOf i').toNat)
  case atStart => exact ⟨0, Nat.zero_le _, rfl, S⟩
  case round =>
    obtain ⟨k, hk, rfl, HA⟩ := hrel
    have S := HA
    by_cases hlt : k < n
    · have hlt' : k < l.length := by rw [← HN.out]; exact hlt
      obtain ⟨ad, va, vb, vr, vo, rfl, hat, hst⟩ := HE.out k hlt'
      have hm : l.getD k z100 ∈ l := by rw [List.getD_eq_getElem?_getD, List.getElem?_eq_getElem hlt']; exact List.getElem_mem hlt'
      obtain ⟨x, hx⟩ : ∃ x, x = l.getD k z100 := ⟨_, rfl⟩
      rw [← hx] at hat hst hm
      obtain ⟨⟨Aa, ca, rfl, p1, p2⟩, ⟨Ab, cb, rfl, p3, p4⟩, ⟨Ar, cr, rfl, p5, p6⟩, ⟨Ao, co, rfl, p7, p8⟩⟩ := hst
      have HAT := Aside0.mk hat
      have HST := Aside0.mk (show StepC w _ _ _ _ x from ⟨opC_mk p1 p2, opC_mk p3 p4, runC_mk p5 p6, runC_mk p7 p8⟩)
      clear p1 p2 p3 p4 p5 p6 p7 p8
      have hpx := HP.out x hm
      clear hat hx hm
      have hlk : (k : Int) < (n : Int) := by omega
      have hk0 : (0 : Int) ≤ (k : Int) := by omega
      by_cases c1 : lo ≤ x.f0
      · have c1' : decide (lo ≤ x.f0) = true := decide_eq_true c1
        by_cases c2 : x.f0 ≤ hi
        · have c2' : decide (x.f0 ≤ hi) = true := decide_eq_true c2
          have HPX := Aside0.mk (hpx c1 c2)
          clear c1 c2 hpx
          go_wp2_with (first | ((with_reducible refine gate_box rfl ?_); refine ev_box S ?_; clear S; intro _ _ S) | ((with_reducible refine gate_new rfl ?_); refine ev_new S 100 zS ?_; clear S; intro _ _ S) | ((with_reducible refine gate_load rfl ?_); first | refine ev_load S 0 ?_ (hw := by first | exact wanted_plain rfl | (refine wanted_on rfl ?_; first | (simp [yielded]; done) | rfl)) | refine ev_load S 1 ?_ (hw := by first | exact wanted_plain rfl | (refine wanted_on rfl ?_; first | (simp [yielded]; done) | rfl)) | refine ev_load S 2 ?_ (hw := by first | exact wanted_plain rfl | (refine wanted_on rfl ?_; first | (simp [yielded]; done) | rfl)) | refine ev_load S 3 ?_ (hw := by first | exact wanted_plain rfl | (refine wanted_on rfl ?_; first | (simp [yielded]; done) | rfl))) | ((with_reducible refine gate_load rfl ?_); first | refine ev_fld S 0 ?_ (hw := by first | exact wanted_plain rfl | (refine wanted_on rfl ?_; first | (simp [yielded]; done) | rfl)) | refine ev_fld S 1 ?_ (hw := by first | exact wanted_plain rfl | (refine wanted_on rfl ?_; first | (simp [yielded]; done) | rfl)) | refine ev_fld S 2 ?_ (hw := by first | exact wanted_plain rfl | (refine wanted_on rfl ?_; first | (simp [yielded]; done) | rfl)) | refine ev_fld S 3 ?_ (hw := by first | exact wanted_plain rfl | (refine wanted_on rfl ?_; first | (simp [yielded]; done) | rfl))) | ((with_reducible refine gate_load rfl ?_); refine ev_ext _ (HAT.out _ S.out.below) ?_) | ((with_reducible refine gate_st rfl ?_); (first | refine ev_store S 0 ?_ | refine ev_store S 1 ?_ | refine ev_store S 2 ?_); clear S; intro _ S) | (go_at_call 68; (with_reducible refine (HPX.out _ _ _ _ _ (GW.below HG.out S.out.below) (HST.out.below S.out.below)).mono ?_); rintro e_ w7 ⟨rfl, hb⟩; replace S := Aside0.mk (S.out.step hb); clear hb))
          go_roundw
          case rel => exact ⟨k + 1, by omega, by go_num, ⟨(S.out.drop (List.nil_sublist _)).weak fun _ _ => trivial⟩⟩
          case measure => simp [intOf]; omega
        · have c2' : decide (x.f0 ≤ hi) = false := decide_eq_false c2
          clear c1 c2 hpx
          go_wp2_with (first | ((with_reducible refine gate_box rfl ?_); refine ev_box S ?_; clear S; intro _ _ S) | ((with_reducible refine gate_new rfl ?_); refine ev_new S 100 zS ?_; clear S; intro _ _ S) | ((with_reducible refine gate_load rfl ?_); first | refine ev_load S 0 ?_ (hw := by first | exact wanted_plain rfl | (refine wanted_on rfl ?_; first | (simp [yielded]; done) | rfl)) | refine ev_load S 1 ?_ (hw := by first | exact wanted_plain rfl | (refine wanted_on rfl ?_; first | (simp [yielded]; done) | rfl)) | refine ev_load S 2 ?_ (hw := by first | exact wanted_plain rfl | (refine wanted_on rfl ?_; first | (simp [yielded]; done) | rfl)) | refine ev_load S 3 ?_ (hw := by first | exact wanted_plain rfl | (refine wanted_on rfl ?_; first | (simp [yielded]; done) | rfl))) | ((with_reducible refine gate_load rfl ?_); first | refine ev_fld S 0 ?_ (hw := by first | exact wanted_plain rfl | (refine wanted_on rfl ?_; first | (simp [yielded]; done) | rfl)) | refine ev_fld S 1 ?_ (hw := by first | exact wanted_plain rfl | (refine wanted_on rfl ?_; first | (simp [yielded]; done) | rfl)) | refine ev_fld S 2 ?_ (hw := by first | exact wanted_plain rfl | (refine wanted_on rfl ?_; first | (simp [yielded]; done) | rfl)) | refine ev_fld S 3 ?_ (hw := by first | exact wanted_plain rfl | (refine wanted_on rfl ?_; first | (simp [yielded]; done) | rfl))) | ((with_reducible refine gate_load rfl ?_); refine ev_ext _ (HAT.out _ S.out.below) ?_) | ((with_reducible refine gate_st rfl ?_); (first | refine ev_store S 0 ?_ | refine ev_store S 1 ?_ | refine ev_store S 2 ?_); clear S; intro _ S) | (go_at_call 68; (with_reducible refine (HPX.out _ _ _ _ _ (GW.below HG.out S.out.below) (HST.out.below S.out.below)).mono ?_); rintro e_ w7 ⟨rfl, hb⟩; replace S := Aside0.mk (S.out.step hb); clear hb))
          go_roundw
          case rel => exact ⟨k + 1, by omega, by go_num, ⟨(S.out.drop (List.nil_sublist _)).weak fun _ _ => trivial⟩⟩
          case measure => simp [intOf]; omega
      · have c1' : decide (lo ≤ x.f0) = false := decide_eq_false c1
        clear c1 hpx
        go_wp2_with (first | ((with_reducible refine gate_box rfl ?_); refine ev_box S ?_; clear S; intro _ _ S) | ((with_reducible refine gate_new rfl ?_); refine ev_new S 100 zS ?_; clear S; intro _ _ S) | ((with_reducible refine gate_load rfl ?_); first | refine ev_load S 0 ?_ (hw := by first | exact wanted_plain rfl | (refine wanted_on rfl ?_; first | (simp [yielded]; done) | rfl)) | refine ev_load S 1 ?_ (hw := by first | exact wanted_plain rfl | (refine wanted_on rfl ?_; first | (simp [yielded]; done) | rfl)) | refine ev_load S 2 ?_ (hw := by first | exact wanted_plain rfl | (refine wanted_on rfl ?_; first | (simp [yielded]; done) | rfl)) | refine ev_load S 3 ?_ (hw := by first | exact wanted_plain rfl | (refine wanted_on rfl ?_; first | (simp [yielded]; done) | rfl))) | ((with_reducible refine gate_load rfl ?_); first | refine ev_fld S 0 ?_ (hw := by first | exact wanted_plain rfl | (refine wanted_on rfl ?_; first | (simp [yielded]; done) | rfl)) | refine ev_fld S 1 ?_ (hw := by first | exact wanted_plain rfl | (refine wanted_on rfl ?_; first | (simp [yielded]; done) | rfl)) | refine ev_fld S 2 ?_ (hw := by first | exact wanted_plain rfl | (refine wanted_on rfl ?_; first | (simp [yielded]; done) | rfl)) | refine ev_fld S 3 ?_ (hw := by first | exact wanted_plain rfl | (refine wanted_on rfl ?_; first | (simp [yielded]; done) | rfl))) | ((with_reducible refine gate_load rfl ?_); refine ev_ext _ (HAT.out _ S.out.below) ?_) | ((with_reducible refine gate_st rfl ?_); (first | refine ev_store S 0 ?_ | refine ev_store S 1 ?_ | refine ev_store S 2 ?_); clear S; intro _ S) | (go_at_call 68; (with_reducible refine (HPX.out _ _ _ _ _ (GW.below HG.out S.out.below) (HST.out.below S.out.below)).mono ?_); rintro e_ w7 ⟨rfl, hb⟩; replace S := Aside0.mk (S.out.step hb); clear hb))
        go_roundw
        case rel => exact ⟨k + 1, by omega, by go_num, ⟨(S.out.drop (List.nil_sublist _)).weak fun _ _ => trivial⟩⟩
        case measure => simp [intOf]; omega
    · obtain rfl : k = n := by omega
      go_wp2_with (first | ((with_reducible refine gate_box rfl ?_); refine ev_box S ?_; clear S; intro _ _ S) | ((with_reducible refine gate_new rfl ?_); refine ev_new S 100 zS ?_; clear S; intro _ _ S) | ((with_reducible refine gate_load rfl ?_); first | refine ev_load S 0 ?_ (hw := by first | exact wanted_plain rfl | (refine wanted_on rfl ?_; first | (simp [yielded]; done) | rfl)) | refine ev_load S 1 ?_ (hw := by first | exact wanted_plain rfl | (refine wanted_on rfl ?_; first | (simp [yielded]; done) | rfl)) | refine ev_load S 2 ?_ (hw := by first | exact wanted_plain rfl | (refine wanted_on rfl ?_; first | (simp [yielded]; done) | rfl)) | refine ev_load S 3 ?_ (hw := by first | exact wanted_plain rfl | (refine wanted_on rfl ?_; first | (simp [yielded]; done) | rfl))) | ((with_reducible refine gate_load rfl ?_); first | refine ev_fld S 0 ?_ (hw := by first | exact wanted_plain rfl | (refine wanted_on rfl ?_; first | (simp [yielded]; done) | rfl)) | refine ev_fld S 1 ?_ (hw := by first | exact wanted_plain rfl | (refine wanted_on rfl ?_; first | (simp [yielded]; done) | rfl)) | refine ev_fld S 2 ?_ (hw := by first | exact wanted_plain rfl | (refine wanted_on rfl ?_; first | (simp [yielded]; done) | rfl)) | refine ev_fld S 3 ?_ (hw := by first | exact wanted_plain rfl | (refine wanted_on rfl ?_; first | (simp [yielded]; done) | rfl))) | ((with_reducible refine gate_load rfl ?_); refine ev_ext _ (HAT.out _ S.out.below) ?_) | ((with_reducible refine gate_st rfl ?_); (first | refine ev_store S 0 ?_ | refine ev_store S 1 ?_ | refine ev_store S 2 ?_); clear S; intro _ S) | (go_at_call 68; (with_reducible refine (HPX.out _ _ _ _ _ (GW.below HG.out S.out.below) (HST.out.below S.out.below)).mono ?_); rintro e_ w7 ⟨rfl, hb⟩; replace S := Aside0.mk (S.out.step hb); clear hb))
      go_ret
      exact ⟨rfl, S.out.below⟩
end Go.Proofs.YtloccjkcmlkifaaDoor
end

section
/- A step of kind 1 (Include) is answered as the document says. -/
namespace Go.Proofs.YtloccjkcmlkifaaDoor
open Go.RowKit Go.Proofs.YtloccjkcmlkifaaDoor.PAll Go.Proofs.YtloccjkcmlkifaaDoorW.PrintWords Go.Proofs.YtloccjkcmlkifaaDoorW.PrintLast

theorem incE_len (a b : S41) (e : Bool) (h : a.f3.length ≤ 1048576) : (wrap1 a b (incE a b e)).1.f3.length ≤ 4611686018427387904 := by
  have hz : z41.f3.length = 0 := rfl
  have h1 : (incE a b e).1.f3.length ≤ 1048576 := by
    unfold incE incP
    split
    · show z41.f3.length ≤ _; omega
    · split
      · exact h
      · split
        · split
          · unfold moveE; split
            · show z41.f3.length ≤ _; omega
            · exact Nat.zero_le _
          · exact h
        · split
          · unfold rangedE; split
            · show (thrE a.f3 b.f1 (wid b)).1.length ≤ 1048576
              unfold thrE bnd
              split
              · exact Nat.zero_le _
              · split
                · exact Nat.zero_le _
                · show (thrS b.f1 (wid b) a.f3).length ≤ _; omega
            · show z41.f3.length ≤ _; omega
          · exact h
  unfold wrap1
  split
  · omega
  · show z41.f3.length ≤ _; omega
set_option maxRecDepth 100000 in
set_option maxHeartbeats 8000000 in
theorem plays_include (s : S100) (hf : fineStep s) (k1 : s.f0 = 1) : PlaysYes s := by
  intro va vb vr vo w hG h
  obtain ⟨⟨A, c, rfl, h1, h2⟩, ⟨A', c', rfl, h3, h4⟩, ⟨B, d, rfl, _, _⟩, ⟨B', d', rfl, _, _⟩⟩ := h
  have S := Aside0.mk (St.init w (F := fun _ => True) (fun _ _ => trivial))
  have HA := Aside0.mk (opC_mk h1 h2); have HB := Aside0.mk (opC_mk h3 h4)
  have HG := Aside0.mk hG; have HF := Aside0.mk (show fineOp s.f1 ∧ fineOp s.f2 from ⟨hf.1, hf.2.1⟩)
  have HLN := Aside0.mk (incE_len s.f1 s.f2 s.f5 hf.1.2)
  have k1' : (s.f0 == 1) = true := beq_iff_eq.mpr k1
  clear h1 h2 h3 h4 hG hf k1
  go_enter Tryd.func68, Tryd.ntmps68
  go_wp2_with (first | ((with_reducible refine gate_box rfl ?_); refine ev_box S ?_; clear S; intro _ _ S) | ((with_reducible refine gate_new rfl ?_); refine ev_new S 41 zA ?_; clear S; intro _ _ S) | ((with_reducible refine gate_load rfl ?_); first | refine ev_load S 0 ?_ (hw := by first | exact wanted_plain rfl | (refine wanted_on rfl ?_; first | (simp [yielded]; done) | rfl)) | refine ev_load S 1 ?_ (hw := by first | exact wanted_plain rfl | (refine wanted_on rfl ?_; first | (simp [yielded]; done) | rfl)) | refine ev_load S 2 ?_ (hw := by first | exact wanted_plain rfl | (refine wanted_on rfl ?_; first | (simp [yielded]; done) | rfl)) | refine ev_load S 3 ?_ (hw := by first | exact wanted_plain rfl | (refine wanted_on rfl ?_; first | (simp [yielded]; done) | rfl))) | ((with_reducible refine gate_load rfl ?_); first | refine ev_sub S 0 (opA s.f1 (.slice A s.f1.f3.length c)) ?_ | refine ev_sub S 1 (opA s.f1 (.slice A s.f1.f3.length c)) ?_ | refine ev_sub S 0 (opA s.f2 (.slice A' s.f2.f3.length c')) ?_ | refine ev_sub S 1 (opA s.f2 (.slice A' s.f2.f3.length c')) ?_) | ((with_reducible refine gate_load rfl ?_); first | refine ev_fld S 0 ?_ (hw := by first | exact wanted_plain rfl | (refine wanted_on rfl ?_; first | (simp [yielded]; done) | rfl)) | refine ev_fld S 1 ?_ (hw := by first | exact wanted_plain rfl | (refine wanted_on rfl ?_; first | (simp [yielded]; done) | rfl)) | refine ev_fld S 2 ?_ (hw := by first | exact wanted_plain rfl | (refine wanted_on rfl ?_; first | (simp [yielded]; done) | rfl)) | refine ev_fld S 3 ?_ (hw := by first | exact wanted_plain rfl | (refine wanted_on rfl ?_; first | (simp [yielded]; done) | rfl))) | ((with_reducible refine gate_st rfl ?_); (first | refine ev_store S 0 ?_ | refine ev_store S 1 ?_ | refine ev_store S 2 ?_); clear S; intro _ S) | (go_at_call 77; (with_reducible refine (rInclude_any s.f1 s.f2 s.f5 _ _ _ (HA.out.below S.out.below) (HB.out.below S.out.below) HF.out.1 HF.out.2).mono ?_); rintro e_ w7 ⟨v, rfl, hR, hb⟩; obtain ⟨Au, cu, rfl⟩ := hR.slice; replace S := Aside0.mk (S.out.addOp hb hR); clear hb hR) | (go_at_call 78; (with_reducible refine (one_any (wrap1 s.f1 s.f2 (incE s.f1 s.f2 s.f5)).1 (wrap1 s.f1 s.f2 (incE s.f1 s.f2 s.f5)).2 _ _ _ S.out.now.1.2.C S.out.now.2.C HLN.out).mono ?_); rintro e_ w7 ⟨rfl, hb⟩; replace S := Aside0.mk (S.out.step hb); clear hb))
  refine rg_start (n := 15) (fun W => St w W _ (fun _ => True)) [13] (S.out.weak fun _ _ => trivial) (fun _ h => h.drew) ?_
  clear S
  intro _ S
  refine pu_ 0 ?_; refine sb_ 1 0 (opA s.f1 (.slice A s.f1.f3.length c)) S (fun _ h => h) ?_; refine pu_ 3 ?_; refine sb_ 4 0 (opA s.f2 (.slice A' s.f2.f3.length c')) S (fun _ h => h) ?_; refine pu_ 6 ?_; refine fl_ 7 0 S (fun _ h => h) ?_
  refine re_ (rc_ 2 ?_ (rc_ 12 ?_ AllReadyL.nil))
  · intro K hK; refine kc_ #[.agg (opA s.f1 (.slice A s.f1.f3.length c))] ?_ Tryd.func22; refine (rcopy_any s.f1 _ _ (HA.out.below S.below) HF.out.1).mono ?_; rintro e_ w7 ⟨v, rfl, hR, hb⟩; have S' := S.addOp hb hR; obtain ⟨Ao, co, rfl⟩ := hR.slice; clear hb hR; refine ⟨_, rfl, hK.out _ _ (S'.weak fun _ _ => trivial) (fun _ => ?_)⟩; clear hK; clear S; have S := S'; clear S'; refine nr_ (by (simp only [Act.put, List.setIfInBounds_toArray, List.set_cons_zero, List.set_cons_succ]; rfl)) ?_
    refine re_ (rc_ 5 ?_ (rc_ 12 ?_ AllReadyL.nil))
    · intro K hK; refine kc_ #[.agg (opA s.f2 (.slice A' s.f2.f3.length c'))] ?_ Tryd.func22; refine (rcopy_any s.f2 _ _ (HB.out.below S.below) HF.out.2).mono ?_; rintro e_ w7 ⟨v, rfl, hR, hb⟩; have S' := S.addOp hb hR; obtain ⟨Ap, cp, rfl⟩ := hR.slice; clear hb hR; refine ⟨_, rfl, hK.out _ _ (S'.weak fun _ _ => trivial) (fun _ => ?_)⟩; clear hK; clear S; have S := S'; clear S'; refine nr_ (by (simp only [Act.put, List.setIfInBounds_toArray, List.set_cons_zero, List.set_cons_succ]; rfl)) ?_
      refine re_ (rc_ 8 ?_ (rc_ 12 ?_ AllReadyL.nil))
      · intro K hK; refine kc_ #[.agg (opA s.f1 (.slice Ao s.f1.f3.length co)), .agg (opA s.f2 (.slice Ap s.f2.f3.length cp)), .bool s.f5] ?_ Tryd.func26; refine (Include_any s.f1 s.f2 s.f5 _ _ _ (GW.below HG.out S.below) S.now.1.2.C S.now.2.C HF.out.1 HF.out.2).mono ?_; rintro e_ w7 ⟨v, rfl, hR, hb⟩; have S' := S.addOp hb hR; obtain ⟨Av, cv, rfl⟩ := hR.slice; clear hb hR; refine ⟨_, rfl, hK.out _ _ (S'.weak fun _ _ => trivial) (fun _ => ?_)⟩; clear hK; clear S; have S := S'; clear S'; refine nr_ (by (simp only [Act.put, List.setIfInBounds_toArray, List.set_cons_zero, List.set_cons_succ]; rfl)) ?_
        refine pu_ 9 ?_; refine pu_ 10 ?_; refine pu_ 11 ?_
        refine re_ (rc_ 12 ?_ AllReadyL.nil)
        intro K hK; refine kn_ 41 zA S ?_; intro _ _ S'; refine hK.out _ _ ((S'.drop (List.sublist_cons_self _ _)).weak fun _ _ => trivial) (fun _ => ?_); clear hK; clear S; have S := S'; clear S'; refine nr_ (by (simp only [Act.put, List.setIfInBounds_toArray, List.set_cons_zero, List.set_cons_succ]; rfl)) ?_
        refine so_ 13 0 S ?_; clear S; intro _ S; refine pu_ 14 ?_; refine done_ (by kernel_rfl) ?_; have S := Aside0.mk S
        (go_wp2_with (first | ((with_reducible refine gate_box rfl ?_); refine ev_box S ?_; clear S; intro _ _ S) | ((with_reducible refine gate_new rfl ?_); refine ev_new S 41 zA ?_; clear S; intro _ _ S) | ((with_reducible refine gate_load rfl ?_); first | refine ev_load S 0 ?_ (hw := by first | exact wanted_plain rfl | (refine wanted_on rfl ?_; first | (simp [yielded]; done) | rfl)) | refine ev_load S 1 ?_ (hw := by first | exact wanted_plain rfl | (refine wanted_on rfl ?_; first | (simp [yielded]; done) | rfl)) | refine ev_load S 2 ?_ (hw := by first | exact wanted_plain rfl | (refine wanted_on rfl ?_; first | (simp [yielded]; done) | rfl)) | refine ev_load S 3 ?_ (hw := by first | exact wanted_plain rfl | (refine wanted_on rfl ?_; first | (simp [yielded]; done) | rfl))) | ((with_reducible refine gate_load rfl ?_); first | refine ev_sub S 0 (opA s.f1 (.slice A s.f1.f3.length c)) ?_ | refine ev_sub S 1 (opA s.f1 (.slice A s.f1.f3.length c)) ?_ | refine ev_sub S 0 (opA s.f2 (.slice A' s.f2.f3.length c')) ?_ | refine ev_sub S 1 (opA s.f2 (.slice A' s.f2.f3.length c')) ?_) | ((with_reducible refine gate_load rfl ?_); first | refine ev_fld S 0 ?_ (hw := by first | exact wanted_plain rfl | (refine wanted_on rfl ?_; first | (simp [yielded]; done) | rfl)) | refine ev_fld S 1 ?_ (hw := by first | exact wanted_plain rfl | (refine wanted_on rfl ?_; first | (simp [yielded]; done) | rfl)) | refine ev_fld S 2 ?_ (hw := by first | exact wanted_plain rfl | (refine wanted_on rfl ?_; first | (simp [yielded]; done) | rfl)) | refine ev_fld S 3 ?_ (hw := by first | exact wanted_plain rfl | (refine wanted_on rfl ?_; first | (simp [yielded]; done) | rfl))) | ((with_reducible refine gate_st rfl ?_); (first | refine ev_store S 0 ?_ | refine ev_store S 1 ?_ | refine ev_store S 2 ?_); clear S; intro _ S) | (go_at_call 77; (with_reducible refine (rInclude_any s.f1 s.f2 s.f5 _ _ _ (HA.out.below S.out.below) (HB.out.below S.out.below) HF.out.1 HF.out.2).mono ?_); rintro e_ w7 ⟨v, rfl, hR, hb⟩; obtain ⟨Au, cu, rfl⟩ := hR.slice; replace S := Aside0.mk (S.out.addOp hb hR); clear hb hR) | (go_at_call 78; (with_reducible refine (one_any (wrap1 s.f1 s.f2 (incE s.f1 s.f2 s.f5)).1 (wrap1 s.f1 s.f2 (incE s.f1 s.f2 s.f5)).2 _ _ _ S.out.now.1.2.C S.out.now.2.C HLN.out).mono ?_); rintro e_ w7 ⟨rfl, hb⟩; replace S := Aside0.mk (S.out.step hb); clear hb)); go_ret; exact ⟨rfl, S.out.below⟩)
      · intro K hK; refine kn_ 41 zA S ?_; intro _ _ S'; refine hK.out _ _ ((S'.drop (List.sublist_cons_self _ _)).weak fun _ _ => trivial) (fun _ => ?_); clear hK; clear S; have S := S'; clear S'; refine nr_ (by (simp only [Act.put, List.setIfInBounds_toArray, List.set_cons_zero, List.set_cons_succ]; rfl)) ?_
        refine cl_ 8 #[.agg (opA s.f1 (.slice Ao s.f1.f3.length co)), .agg (opA s.f2 (.slice Ap s.f2.f3.length cp)), .bool s.f5] ?_ Tryd.func26; refine (Include_any s.f1 s.f2 s.f5 _ _ _ (GW.below HG.out S.below) S.now.1.2.C S.now.2.C HF.out.1 HF.out.2).mono ?_; rintro e_ w7 ⟨v, rfl, hR, hb⟩; have S' := S.addOp hb hR; obtain ⟨Av, cv, rfl⟩ := hR.slice; clear hb hR; refine ⟨_, rfl, ((S'.drop (List.sublist_cons_self _ _)).weak fun _ _ => trivial), fun _ => ?_⟩; clear S; have S := S'; clear S'; refine nr_ (by (simp only [Act.put, List.setIfInBounds_toArray, List.set_cons_zero, List.set_cons_succ]; rfl)) ?_
        refine pu_ 9 ?_; refine pu_ 10 ?_; refine pu_ 11 ?_
        refine so_ 13 0 S ?_; clear S; intro _ S; refine pu_ 14 ?_; refine done_ (by kernel_rfl) ?_; have S := Aside0.mk S
        (go_wp2_with (first | ((with_reducible refine gate_box rfl ?_); refine ev_box S ?_; clear S; intro _ _ S) | ((with_reducible refine gate_new rfl ?_); refine ev_new S 41 zA ?_; clear S; intro _ _ S) | ((with_reducible refine gate_load rfl ?_); first | refine ev_load S 0 ?_ (hw := by first | exact wanted_plain rfl | (refine wanted_on rfl ?_; first | (simp [yielded]; done) | rfl)) | refine ev_load S 1 ?_ (hw := by first | exact wanted_plain rfl | (refine wanted_on rfl ?_; first | (simp [yielded]; done) | rfl)) | refine ev_load S 2 ?_ (hw := by first | exact wanted_plain rfl | (refine wanted_on rfl ?_; first | (simp [yielded]; done) | rfl)) | refine ev_load S 3 ?_ (hw := by first | exact wanted_plain rfl | (refine wanted_on rfl ?_; first | (simp [yielded]; done) | rfl))) | ((with_reducible refine gate_load rfl ?_); first | refine ev_sub S 0 (opA s.f1 (.slice A s.f1.f3.length c)) ?_ | refine ev_sub S 1 (opA s.f1 (.slice A s.f1.f3.length c)) ?_ | refine ev_sub S 0 (opA s.f2 (.slice A' s.f2.f3.length c')) ?_ | refine ev_sub S 1 (opA s.f2 (.slice A' s.f2.f3.length c')) ?_) | ((with_reducible refine gate_load rfl ?_); first | refine ev_fld S 0 ?_ (hw := by first | exact wanted_plain rfl | (refine wanted_on rfl ?_; first | (simp [yielded]; done) | rfl)) | refine ev_fld S 1 ?_ (hw := by first | exact wanted_plain rfl | (refine wanted_on rfl ?_; first | (simp [yielded]; done) | rfl)) | refine ev_fld S 2 ?_ (hw := by first | exact wanted_plain rfl | (refine wanted_on rfl ?_; first | (simp [yielded]; done) | rfl)) | refine ev_fld S 3 ?_ (hw := by first | exact wanted_plain rfl | (refine wanted_on rfl ?_; first | (simp [yielded]; done) | rfl))) | ((with_reducible refine gate_st rfl ?_); (first | refine ev_store S 0 ?_ | refine ev_store S 1 ?_ | refine ev_store S 2 ?_); clear S; intro _ S) | (go_at_call 77; (with_reducible refine (rInclude_any s.f1 s.f2 s.f5 _ _ _ (HA.out.below S.out.below) (HB.out.below S.out.below) HF.out.1 HF.out.2).mono ?_); rintro e_ w7 ⟨v, rfl, hR, hb⟩; obtain ⟨Au, cu, rfl⟩ := hR.slice; replace S := Aside0.mk (S.out.addOp hb hR); clear hb hR) | (go_at_call 78; (with_reducible refine (one_any (wrap1 s.f1 s.f2 (incE s.f1 s.f2 s.f5)).1 (wrap1 s.f1 s.f2 (incE s.f1 s.f2 s.f5)).2 _ _ _ S.out.now.1.2.C S.out.now.2.C HLN.out).mono ?_); rintro e_ w7 ⟨rfl, hb⟩; replace S := Aside0.mk (S.out.step hb); clear hb)); go_ret; exact ⟨rfl, S.out.below⟩)
    · intro K hK; refine kn_ 41 zA S ?_; intro _ _ S'; refine hK.out _ _ ((S'.drop (List.sublist_cons_self _ _)).weak fun _ _ => trivial) (fun _ => ?_); clear hK; clear S; have S := S'; clear S'; refine nr_ (by (simp only [Act.put, List.setIfInBounds_toArray, List.set_cons_zero, List.set_cons_succ]; rfl)) ?_
      refine cl_ 5 #[.agg (opA s.f2 (.slice A' s.f2.f3.length c'))] ?_ Tryd.func22; refine (rcopy_any s.f2 _ _ (HB.out.below S.below) HF.out.2).mono ?_; rintro e_ w7 ⟨v, rfl, hR, hb⟩; have S' := S.addOp hb hR; obtain ⟨Ap, cp, rfl⟩ := hR.slice; clear hb hR; refine ⟨_, rfl, ((S'.drop (List.sublist_cons_self _ _)).weak fun _ _ => trivial), fun _ => ?_⟩; clear S; have S := S'; clear S'; refine nr_ (by (simp only [Act.put, List.setIfInBounds_toArray, List.set_cons_zero, List.set_cons_succ]; rfl)) ?_
      refine cl_ 8 #[.agg (opA s.f1 (.slice Ao s.f1.f3.length co)), .agg (opA s.f2 (.slice Ap s.f2.f3.length cp)), .bool s.f5] ?_ Tryd.func26; refine (Include_any s.f1 s.f2 s.f5 _ _ _ (GW.below HG.out S.below) S.now.1.2.C S.now.2.C HF.out.1 HF.out.2).mono ?_; rintro e_ w7 ⟨v, rfl, hR, hb⟩; have S' := S.addOp hb hR; obtain ⟨Av, cv, rfl⟩ := hR.slice; clear hb hR; refine ⟨_, rfl, ((S'.drop (List.sublist_cons_self _ _)).weak fun _ _ => trivial), fun _ => ?_⟩; clear S; have S := S'; clear S'; refine nr_ (by (simp only [Act.put, List.setIfInBounds_toArray, List.set_cons_zero, List.set_cons_succ]; rfl)) ?_
      refine pu_ 9 ?_; refine pu_ 10 ?_; refine pu_ 11 ?_
      refine so_ 13 0 S ?_; clear S; intro _ S; refine pu_ 14 ?_; refine done_ (by kernel_rfl) ?_; have S := Aside0.mk S
      (go_wp2_with (first | ((with_reducible refine gate_box rfl ?_); refine ev_box S ?_; clear S; intro _ _ S) | ((with_reducible refine gate_new rfl ?_); refine ev_new S 41 zA ?_; clear S; intro _ _ S) | ((with_reducible refine gate_load rfl ?_); first | refine ev_load S 0 ?_ (hw := by first | exact wanted_plain rfl | (refine wanted_on rfl ?_; first | (simp [yielded]; done) | rfl)) | refine ev_load S 1 ?_ (hw := by first | exact wanted_plain rfl | (refine wanted_on rfl ?_; first | (simp [yielded]; done) | rfl)) | refine ev_load S 2 ?_ (hw := by first | exact wanted_plain rfl | (refine wanted_on rfl ?_; first | (simp [yielded]; done) | rfl)) | refine ev_load S 3 ?_ (hw := by first | exact wanted_plain rfl | (refine wanted_on rfl ?_; first | (simp [yielded]; done) | rfl))) | ((with_reducible refine gate_load rfl ?_); first | refine ev_sub S 0 (opA s.f1 (.slice A s.f1.f3.length c)) ?_ | refine ev_sub S 1 (opA s.f1 (.slice A s.f1.f3.length c)) ?_ | refine ev_sub S 0 (opA s.f2 (.slice A' s.f2.f3.length c')) ?_ | refine ev_sub S 1 (opA s.f2 (.slice A' s.f2.f3.length c')) ?_) | ((with_reducible refine gate_load rfl ?_); first | refine ev_fld S 0 ?_ (hw := by first | exact wanted_plain rfl | (refine wanted_on rfl ?_; first | (simp [yielded]; done) | rfl)) | refine ev_fld S 1 ?_ (hw := by first | exact wanted_plain rfl | (refine wanted_on rfl ?_; first | (simp [yielded]; done) | rfl)) | refine ev_fld S 2 ?_ (hw := by first | exact wanted_plain rfl | (refine wanted_on rfl ?_; first | (simp [yielded]; done) | rfl)) | refine ev_fld S 3 ?_ (hw := by first | exact wanted_plain rfl | (refine wanted_on rfl ?_; first | (simp [yielded]; done) | rfl))) | ((with_reducible refine gate_st rfl ?_); (first | refine ev_store S 0 ?_ | refine ev_store S 1 ?_ | refine ev_store S 2 ?_); clear S; intro _ S) | (go_at_call 77; (with_reducible refine (rInclude_any s.f1 s.f2 s.f5 _ _ _ (HA.out.below S.out.below) (HB.out.below S.out.below) HF.out.1 HF.out.2).mono ?_); rintro e_ w7 ⟨v, rfl, hR, hb⟩; obtain ⟨Au, cu, rfl⟩ := hR.slice; replace S := Aside0.mk (S.out.addOp hb hR); clear hb hR) | (go_at_call 78; (with_reducible refine (one_any (wrap1 s.f1 s.f2 (incE s.f1 s.f2 s.f5)).1 (wrap1 s.f1 s.f2 (incE s.f1 s.f2 s.f5)).2 _ _ _ S.out.now.1.2.C S.out.now.2.C HLN.out).mono ?_); rintro e_ w7 ⟨rfl, hb⟩; replace S := Aside0.mk (S.out.step hb); clear hb)); go_ret; exact ⟨rfl, S.out.below⟩)
  · intro K hK; refine kn_ 41 zA S ?_; intro _ _ S'; refine hK.out _ _ ((S'.drop (List.sublist_cons_self _ _)).weak fun _ _ => trivial) (fun _ => ?_); clear hK; clear S; have S := S'; clear S'; refine nr_ (by (simp only [Act.put, List.setIfInBounds_toArray, List.set_cons_zero, List.set_cons_succ]; rfl)) ?_
    refine cl_ 2 #[.agg (opA s.f1 (.slice A s.f1.f3.length c))] ?_ Tryd.func22; refine (rcopy_any s.f1 _ _ (HA.out.below S.below) HF.out.1).mono ?_; rintro e_ w7 ⟨v, rfl, hR, hb⟩; have S' := S.addOp hb hR; obtain ⟨Ao, co, rfl⟩ := hR.slice; clear hb hR; refine ⟨_, rfl, ((S'.drop (List.sublist_cons_self _ _)).weak fun _ _ => trivial), fun _ => ?_⟩; clear S; have S := S'; clear S'; refine nr_ (by (simp only [Act.put, List.setIfInBounds_toArray, List.set_cons_zero, List.set_cons_succ]; rfl)) ?_
    refine cl_ 5 #[.agg (opA s.f2 (.slice A' s.f2.f3.length c'))] ?_ Tryd.func22; refine (rcopy_any s.f2 _ _ (HB.out.below S.below) HF.out.2).mono ?_; rintro e_ w7 ⟨v, rfl, hR, hb⟩; have S' := S.addOp hb hR; obtain ⟨Ap, cp, rfl⟩ := hR.slice; clear hb hR; refine ⟨_, rfl, ((S'.drop (List.sublist_cons_self _ _)).weak fun _ _ => trivial), fun _ => ?_⟩; clear S; have S := S'; clear S'; refine nr_ (by (simp only [Act.put, List.setIfInBounds_toArray, List.set_cons_zero, List.set_cons_succ]; rfl)) ?_
    refine cl_ 8 #[.agg (opA s.f1 (.slice Ao s.f1.f3.length co)), .agg (opA s.f2 (.slice Ap s.f2.f3.length cp)), .bool s.f5] ?_ Tryd.func26; refine (Include_any s.f1 s.f2 s.f5 _ _ _ (GW.below HG.out S.below) S.now.1.2.C S.now.2.C HF.out.1 HF.out.2).mono ?_; rintro e_ w7 ⟨v, rfl, hR, hb⟩; have S' := S.addOp hb hR; obtain ⟨Av, cv, rfl⟩ := hR.slice; clear hb hR; refine ⟨_, rfl, ((S'.drop (List.sublist_cons_self _ _)).weak fun _ _ => trivial), fun _ => ?_⟩; clear S; have S := S'; clear S'; refine nr_ (by (simp only [Act.put, List.setIfInBounds_toArray, List.set_cons_zero, List.set_cons_succ]; rfl)) ?_
    refine pu_ 9 ?_; refine pu_ 10 ?_; refine pu_ 11 ?_
    refine so_ 13 0 S ?_; clear S; intro _ S; refine pu_ 14 ?_; refine done_ (by kernel_rfl) ?_; have S := Aside0.mk S
    (go_wp2_with (first | ((with_reducible refine gate_box rfl ?_); refine ev_box S ?_; clear S; intro _ _ S) | ((with_reducible refine gate_new rfl ?_); refine ev_new S 41 zA ?_; clear S; intro _ _ S) | ((with_reducible refine gate_load rfl ?_); first | refine ev_load S 0 ?_ (hw := by first | exact wanted_plain rfl | (refine wanted_on rfl ?_; first | (simp [yielded]; done) | rfl)) | refine ev_load S 1 ?_ (hw := by first | exact wanted_plain rfl | (refine wanted_on rfl ?_; first | (simp [yielded]; done) | rfl)) | refine ev_load S 2 ?_ (hw := by first | exact wanted_plain rfl | (refine wanted_on rfl ?_; first | (simp [yielded]; done) | rfl)) | refine ev_load S 3 ?_ (hw := by first | exact wanted_plain rfl | (refine wanted_on rfl ?_; first | (simp [yielded]; done) | rfl))) | ((with_reducible refine gate_load rfl ?_); first | refine ev_sub S 0 (opA s.f1 (.slice A s.f1.f3.length c)) ?_ | refine ev_sub S 1 (opA s.f1 (.slice A s.f1.f3.length c)) ?_ | refine ev_sub S 0 (opA s.f2 (.slice A' s.f2.f3.length c')) ?_ | refine ev_sub S 1 (opA s.f2 (.slice A' s.f2.f3.length c')) ?_) | ((with_reducible refine gate_load rfl ?_); first | refine ev_fld S 0 ?_ (hw := by first | exact wanted_plain rfl | (refine wanted_on rfl ?_; first | (simp [yielded]; done) | rfl)) | refine ev_fld S 1 ?_ (hw := by first | exact wanted_plain rfl | (refine wanted_on rfl ?_; first | (simp [yielded]; done) | rfl)) | refine ev_fld S 2 ?_ (hw := by first | exact wanted_plain rfl | (refine wanted_on rfl ?_; first | (simp [yielded]; done) | rfl)) | refine ev_fld S 3 ?_ (hw := by first | exact wanted_plain rfl | (refine wanted_on rfl ?_; first | (simp [yielded]; done) | rfl))) | ((with_reducible refine gate_st rfl ?_); (first | refine ev_store S 0 ?_ | refine ev_store S 1 ?_ | refine ev_store S 2 ?_); clear S; intro _ S) | (go_at_call 77; (with_reducible refine (rInclude_any s.f1 s.f2 s.f5 _ _ _ (HA.out.below S.out.below) (HB.out.below S.out.below) HF.out.1 HF.out.2).mono ?_); rintro e_ w7 ⟨v, rfl, hR, hb⟩; obtain ⟨Au, cu, rfl⟩ := hR.slice; replace S := Aside0.mk (S.out.addOp hb hR); clear hb hR) | (go_at_call 78; (with_reducible refine (one_any (wrap1 s.f1 s.f2 (incE s.f1 s.f2 s.f5)).1 (wrap1 s.f1 s.f2 (incE s.f1 s.f2 s.f5)).2 _ _ _ S.out.now.1.2.C S.out.now.2.C HLN.out).mono ?_); rintro e_ w7 ⟨rfl, hb⟩; replace S := Aside0.mk (S.out.step hb); clear hb)); go_ret; exact ⟨rfl, S.out.below⟩)
end Go.Proofs.YtloccjkcmlkifaaDoor
end

section
/- An insert as the statements make it. -/
namespace Go.Proofs.YtloccjkcmlkifaaDoor
open Go.RowKit Go.Proofs.YtloccjkcmlkifaaDoor.PAll Go.Proofs.YtloccjkcmlkifaaDoorW.PrintWords Go.Proofs.YtloccjkcmlkifaaDoorW.PrintLast

abbrev insO (c n at_ : Int) (t : ByteArray) : S41 := ⟨⟨⟨c, n⟩, 1⟩, at_, t, [], ⟨0, 0⟩, false⟩
theorem opC_nil (w : World) (o : S41) (h : o.f3 = []) : OpC w (.slice none 0 0) o := by
  have e : k94.C w none 0 [] := by
    have := (opR_nil w 0).C
    obtain ⟨A, c, e, _, h⟩ := this
    injection e with e1 _ _
    rw [← e1] at h; exact h
  exact ⟨none, 0, by rw [h]; rfl, by rw [h]; exact Nat.le_refl _, by rw [h]; exact e⟩
theorem ins_any (c n at_ : Int) (t : ByteArray) (w : World) : Calls Tryd.prog 25 #[.int .i64 c, .int .i64 n, .int .i64 at_, .string t] w fun e w' => e = .returned (.agg (opA (insO c n at_ t) (.slice none 0 0))) ∧ Below w.heap.size w w' := by
  have S := Aside0.mk (St.init w (F := fun _ => True) (fun _ _ => trivial))
  go_enter Tryd.func25, Tryd.ntmps25
  go_wp2_with (first | ((with_reducible refine gate_new rfl ?_); refine ev_new S 41 zA ?_; clear S; intro _ _ S) | ((with_reducible refine gate_st rfl ?_); (first | refine ev_store S 0 ?_ | refine ev_store S 1 ?_ | refine ev_store S 2 ?_); clear S; intro _ S))
  exact bodyPost_ret (results_cell_row rfl _ _ _ 41 _ (0, 0) _ rfl (S.out.at_ 0 rfl) Tryd.underlying41 rfl (by kernel_rfl)) rfl ⟨rfl, S.out.below⟩
end Go.Proofs.YtloccjkcmlkifaaDoor
end

section
/- The document's own examples, played. -/
namespace Go.Proofs.YtloccjkcmlkifaaDoor
open Go.RowKit Go.Proofs.YtloccjkcmlkifaaDoor.PAll Go.Proofs.YtloccjkcmlkifaaDoorW.PrintWords Go.Proofs.YtloccjkcmlkifaaDoorW.PrintLast

abbrev ax : S41 := insO 1 1 3 ⟨#[120, 121]⟩
abbrev bx : S41 := insO 2 1 3 ⟨#[97, 98, 99]⟩
abbrev cx : S41 := insO 1 1 5 ⟨#[120]⟩
abbrev dx : S41 := insO 1 1 3 ⟨#[97, 98, 99]⟩
abbrev ex : S41 := insO 2 1 3 ⟨#[120]⟩
theorem aw1 : wrap1 ax bx (incE ax bx true) = (insO 1 1 6 ⟨#[120, 121]⟩, 0) := by kernel_rfl
theorem aw2 : wrap1 ax bx (incE ax bx false) = (insO 1 1 3 ⟨#[120, 121]⟩, 0) := by kernel_rfl
theorem aw3 : wrap1 cx bx (excE cx bx) = (z41, 23) := by kernel_rfl
theorem aw4 : wrap2 dx ex (trE dx ex) = (insO 2 1 3 ⟨#[120]⟩, insO 1 1 4 ⟨#[97, 98, 99]⟩, 0) := by kernel_rfl
theorem fine_ins (c n p : Int) (t : ByteArray) (h : t.size ≤ 1048576) : fineOp (insO c n p t) := ⟨h, by simp⟩
set_option maxRecDepth 100000 in
set_option maxHeartbeats 4000000 in
theorem awake_any (w : World) (hG : GW w) : Calls Tryd.prog 31 #[] w (Yes w) := by
  have S := Aside0.mk (St.init w (F := fun _ => True) (fun _ _ => trivial))
  have HG := Aside0.mk hG
  have HFA := Aside0.mk (fine_ins 1 1 3 ⟨#[120, 121]⟩ (by decide)); have HFB := Aside0.mk (fine_ins 2 1 3 ⟨#[97, 98, 99]⟩ (by decide)); have HFC := Aside0.mk (fine_ins 1 1 5 ⟨#[120]⟩ (by decide))
  have HFD := Aside0.mk (fine_ins 1 1 3 ⟨#[97, 98, 99]⟩ (by decide)); have HFE := Aside0.mk (fine_ins 2 1 3 ⟨#[120]⟩ (by decide))
  clear hG
  go_enter Tryd.func31, Tryd.ntmps31
  go_wp2_with (first | (go_at_call 25; (with_reducible refine (ins_any _ _ _ _ _).mono ?_); rintro e_ w7 ⟨rfl, hb⟩; replace S := Aside0.mk (S.out.step hb); clear hb) | (go_at_call 26; (with_reducible refine (Include_any ax bx _ _ _ _ (GW.below HG.out S.out.below) (opC_nil _ ax rfl) (opC_nil _ bx rfl) HFA.out HFB.out).mono ?_); rintro e_ w7 ⟨v, rfl, hR, hb⟩; (first | rw [aw1] at hR ⊢ | rw [aw2] at hR ⊢); obtain ⟨Ao, co, rfl⟩ := hR.slice; replace S := Aside0.mk (S.out.addOp hb hR); clear hb hR) | (go_at_call 58; (with_reducible refine (Exclude_any cx bx _ _ _ (GW.below HG.out S.out.below) (opC_nil _ cx rfl) (opC_nil _ bx rfl) HFC.out HFB.out).mono ?_); rintro e_ w7 ⟨v, rfl, hR, hb⟩; rw [aw3] at hR ⊢; obtain ⟨Ao, co, rfl⟩ := hR.slice; replace S := Aside0.mk (S.out.addOp hb hR); clear hb hR) | (go_at_call 59; (with_reducible refine (Transpose_any dx ex _ _ _ (GW.below HG.out S.out.below) (opC_nil _ dx rfl) (opC_nil _ ex rfl) HFD.out HFE.out).mono ?_); rintro e_ w7 ⟨v, v2, rfl, hR, hR2, hb⟩; rw [aw4] at hR hR2 ⊢; obtain ⟨Ao, co, rfl⟩ := hR.slice; obtain ⟨Ap, cp, rfl⟩ := hR2.slice; replace S := Aside0.mk (S.out.addR2 hb hR hR2); clear hb hR hR2) | ((with_reducible refine gate_new rfl ?_); refine ev_new S 41 zA ?_; clear S; intro _ _ S) | ((with_reducible refine gate_st rfl ?_); (first | refine ev_store S 0 ?_ | refine ev_store S 1 ?_ | refine ev_store S 2 ?_); clear S; intro _ S) | ((with_reducible refine gate_load rfl ?_); first | refine ev_fld S 0 ?_ (hw := by first | exact wanted_plain rfl | (refine wanted_on rfl ?_; first | (simp [yielded]; done) | rfl)) | refine ev_fld S 1 ?_ (hw := by first | exact wanted_plain rfl | (refine wanted_on rfl ?_; first | (simp [yielded]; done) | rfl)) | refine ev_fld S 2 ?_ (hw := by first | exact wanted_plain rfl | (refine wanted_on rfl ?_; first | (simp [yielded]; done) | rfl)) | refine ev_fld S 3 ?_ (hw := by first | exact wanted_plain rfl | (refine wanted_on rfl ?_; first | (simp [yielded]; done) | rfl))) | (go_at_call 23; (with_reducible refine (num_any _ _).mono ?_); rintro e_ w7 ⟨rfl, hb⟩; replace S := Aside0.mk (S.out.step hb); clear hb))
  go_ret
  exact ⟨rfl, S.out.below⟩
end Go.Proofs.YtloccjkcmlkifaaDoor
end

section
/- XformIncludes: every Include is the document's. -/
namespace Go.Proofs.YtloccjkcmlkifaaDoor
open Go.RowKit Go.Proofs.YtloccjkcmlkifaaDoor.PAll Go.Proofs.YtloccjkcmlkifaaDoorW.PrintWords Go.Proofs.YtloccjkcmlkifaaDoorW.PrintLast

set_option maxRecDepth 100000 in
theorem XformIncludes_any (l : List S100) (A : Option Addr) (c : Nat) (w : World) (hG : GW w) (hl : l.length ≤ 1048576) (h : k100.C w A l.length l) (hf : ∀ s ∈ l, fineStep s) : Calls Tryd.prog 10 #[.slice A l.length c] w (Yes w) := by
  have S := Aside0.mk (St.init w (F := fun _ => True) (fun _ _ => trivial))
  have HG := Aside0.mk hG; have HC := Aside0.mk h; have HL := Aside0.mk hl
  have HP : Aside0 (∀ s ∈ l, 1 ≤ s.f0 → s.f0 ≤ 1 → PlaysYes s) := ⟨fun s hs h1 h2 => plays_include s (hf s hs) (by omega)⟩
  clear hG h hl hf
  go_enter Tryd.func10, Tryd.ntmps10
  go_wp2_with (first | (go_at_call 31; (with_reducible refine (awake_any _ (GW.below HG.out S.out.below)).mono ?_); rintro e_ w7 ⟨rfl, hb⟩; replace S := Aside0.mk (S.out.step hb); clear hb) | (go_at_call 51; (with_reducible refine (played_any l 1 1 A c _ (GW.below HG.out S.out.below) HL.out (Kd.C_below HC.out S.out.below) HP.out).mono ?_); rintro e_ w7 ⟨rfl, hb⟩; replace S := Aside0.mk (S.out.step hb); clear hb))
  go_ret
  exact ⟨rfl, S.out.below⟩
end Go.Proofs.YtloccjkcmlkifaaDoor
end
