/- XformOverIsCross_card, part 40. -/
import Derived.Test.YtloccjkcmlkifaaDoorQOc39
import Derived.Test.YtloccjkcmlkifaaDoorQOc35
import Derived.Test.YtloccjkcmlkifaaDoorQOc37
import Derived.Test.YtloccjkcmlkifaaDoorQOc38
import Derived.Test.YtloccjkcmlkifaaDoorQOc27
import Derived.Test.YtloccjkcmlkifaaDoorQOc32
import Derived.Test.YtloccjkcmlkifaaDoorQOc33
import Derived.Test.YtloccjkcmlkifaaDoorQOc16
import Derived.Test.YtloccjkcmlkifaaDoorQOc29

section
/- The document finds of ranges behind an insert what span.Through makes of them; an include of what is right is right. -/
namespace Go.Proofs.YtloccjkcmlkifaaDoor
open Go.RowKit Go.Proofs.YtloccjkcmlkifaaDoor.PAll Go.Proofs.YtloccjkcmlkifaaDoorW.PrintWords

structure Good (o : S41) : Prop where
 own : ownE o = 0
 fine : fineOp o
theorem nrm_last {x : Int} : ∀ {l : List S94}, Nrm x l → 0 < l.length → 0 ≤ x + 1 → 0 ≤ lastHi l ∧ lastHi l ≤ 1048576
 | [r], h, _, hx => ⟨by show 0 ≤ r.f1; have := h.1; have := h.2.1; omega, h.2.2.1⟩
 | r :: s :: t, h, _, hx => nrm_last (l := s :: t) h.2.2.2 (by simp) (by have := h.1; have := h.2.1; omega)
theorem last_bound {l : List S94} (h : (rngE l).2 = 0) : -1048576 ≤ lastHi l ∧ lastHi l ≤ 1048576 := by
 obtain ⟨_, hN⟩ := rng_ok h
 by_cases h0 : 0 < l.length
 · have := nrm_last hN h0 (by omega); omega
 · have e : l = [] := List.eq_nil_of_length_eq_zero (by omega)
   rw [e]
   show -1048576 ≤ z94.f1 ∧ z94.f1 ≤ 1048576
   unfold z94; simp
theorem Good.rng {o : S41} (g : Good o) (h : o.f0.f1 = 2 ∨ o.f0.f1 = 3) : (rngE o.f3).2 = 0 := ((own_ok g.own).2.2.2.2.2.1 h).2.1
theorem Good.kind {o : S41} (g : Good o) : o.f0.f1 = 1 ∨ o.f0.f1 = 2 ∨ o.f0.f1 = 3 ∨ o.f0.f1 = 4 := by have := own_ok g.own; omega
theorem Good.extra {o : S41} (g : Good o) : extraB o = false := (own_ok g.own).2.2.2.1
theorem Good.noAt {o : S41} (g : Good o) (h : o.f0.f1 ≠ 1) : o.f1 = 0 := by
 have he := g.extra
 unfold extraB at he
 have := of_decide_eq_false he
 by_cases hz : o.f1 = 0
 · exact hz
 · exact absurd (.inl ⟨h, .inl hz⟩) this
theorem Good.fit {o : S41} (g : Good o) : Fit o := by
 have hb := chk_bound o.f2 g.fine.1
 refine ⟨g.fine.2, ?_, ?_⟩
 · by_cases h : o.f0.f1 = 1
   · have := own_ins g.own g.fine.1 h; omega
   · rw [g.noAt h]; omega
 · unfold wid
   have := g.fine.1
   split <;> omega
theorem Good.wid1 {o : S41} (g : Good o) (h : o.f0.f1 = 1) : 1 ≤ wid o ∧ wid o ≤ 256 ∧ 0 ≤ o.f1 ∧ o.f1 + wid o ≤ 1048576 := by
 have := own_ins g.own g.fine.1 h
 have e : wid o = (chk o.f2).1 := if_pos h
 omega
def incE (a b : S41) (e : Bool) : S41 × Int := incP a b e (thrE a.f3 b.f1 (wid b))
theorem incE_prog (a b : S41) (e : Bool) (va vb : Value) (w : World) (hG : GW w) (ha : OpC w va a) (hb : OpC w vb b) (ga : Good a) (gb : Good b) :
 Calls Tryd.prog 56 #[.agg (opA a va), .agg (opA b vb), .bool e] w (RetOp w (incE a b e)) :=
 include_any a b e va vb _ w hG ha hb ga.fit.len ga.fit.at_ ga.fit.wid gb.fit.wid fun h1 h2 => by
  have hb1 := gb.wid1 h2
  exact through_is a.f3 b.f1 (wid b) (ga.rng h1) ⟨hb1.2.2.1, by omega⟩ ⟨hb1.1, by omega⟩ (last_bound (ga.rng h1))
end Go.Proofs.YtloccjkcmlkifaaDoor
end

section
/- What an operation makes of a row of cells, as plain lists: does, fold. -/
namespace Go.Proofs.YtloccjkcmlkifaaDoor
open Go.RowKit Go.Proofs.YtloccjkcmlkifaaDoor.PAll Go.Proofs.YtloccjkcmlkifaaDoorW.PrintWords

def txL : List ByteArray := [⟨#[97]⟩, ⟨#[97, 195, 169]⟩, ⟨#[226, 130, 172, 97, 195, 169]⟩, ⟨#[122, 195, 169, 240, 159, 152, 128, 97]⟩, ⟨#[97, 98, 99, 100, 101]⟩]
def tx (j : Nat) : ByteArray := txL.getD j ⟨#[]⟩
theorem tx_chk (j : Nat) (h : j < 5) : (chk (tx j)).1 = (j : Int) + 1 ∧ (chk (tx j)).2.2 = 0 ∧ (tx j).size ≤ 20 := by
 match j, h with
 | 0, _ => decide +kernel
 | 1, _ => decide +kernel
 | 2, _ => decide +kernel
 | 3, _ => decide +kernel
 | 4, _ => decide +kernel
structure Stands (o : S41) (n : Nat) : Prop where
 kind : 1 ≤ o.f0.f1 ∧ o.f0.f1 ≤ 4
 ins : o.f0.f1 = 1 → 0 ≤ o.f1 ∧ o.f1 ≤ (n : Int) ∧ ∃ j, j < 5 ∧ o.f2 = tx j
 cov : o.f0.f1 = 2 ∨ o.f0.f1 = 3 → 0 < o.f3.length ∧ Nrm (-1) o.f3 ∧ lastHi o.f3 ≤ (n : Int)
theorem Stands.wid {o : S41} {n : Nat} (h : Stands o n) : 0 ≤ wid o ∧ wid o ≤ 5 := by
 unfold Go.Proofs.YtloccjkcmlkifaaDoor.wid
 by_cases c : o.f0.f1 = 1
 · rw [if_pos c]
   obtain ⟨_, _, j, hj, e⟩ := h.ins c
   rw [e, (tx_chk j hj).1]; omega
 · rw [if_neg c]; omega
theorem lwidth_is {o : S41} {n : Nat} (h : Stands o n) : redraftlaw05_width.f 20 o.f0.f0.f0 o.f0.f0.f1 o.f0.f1 o.f1 o.f2 o.f3 o.f4.f0 o.f4.f1 o.f5 = some (wid o) := by
 unfold redraftlaw05_width.f Go.Proofs.YtloccjkcmlkifaaDoor.wid
 by_cases c : o.f0.f1 = 1
 · rw [if_pos c, if_pos c]
   obtain ⟨_, _, j, hj, e⟩ := h.ins c
   rw [e, (tx_chk j hj).1]
   generalize o.f0.f0.f0 = a, o.f0.f0.f1 = b, o.f0.f1 = d, o.f1 = p, o.f3 = l, o.f4.f0 = q, o.f4.f1 = r, o.f5 = s
   clear e c h
   rcases (by omega : j = 0 ∨ j = 1 ∨ j = 2 ∨ j = 3 ∨ j = 4) with rfl | rfl | rfl | rfl | rfl <;> kernel_rfl
 · rw [if_neg c, if_neg c]
def newC (o : S41) (k : Nat) : List S48 := (List.range k).map fun (i : Nat) => (⟨⟨o.f0.f0.f0, o.f0.f0.f1⟩, (i : Int), 0⟩ : S48)
def insC (l : List S48) (o : S41) : List S48 := l.take o.f1.toNat ++ newC o (wid o).toNat ++ l.drop o.f1.toNat
def bumpC (by_ : Int) (c : S48) : S48 := ⟨⟨c.f0.f0, c.f0.f1⟩, c.f1, wrap64 (c.f2 + by_)⟩
def inR (r : S94) (i : Nat) : Bool := decide (r.f0 ≤ (i : Int) ∧ (i : Int) < r.f1)
def covB (rs : List S94) (i : Nat) : Bool := rs.any (inR · i)
def hidC (by_ : Int) (rs : List S94) (l : List S48) : List S48 := l.mapIdx fun i c => if covB rs i = true then bumpC by_ c else c
def doesE (l : List S48) (o : S41) : List S48 := if o.f0.f1 = 1 then insC l o else if o.f0.f1 = 2 then hidC 1 o.f3 l else if o.f0.f1 = 3 then hidC (-1) o.f3 l else l
theorem hidC_len (b : Int) (rs : List S94) (l : List S48) : (hidC b rs l).length = l.length := by unfold hidC; simp
theorem insC_len (l : List S48) (o : S41) (h : o.f1.toNat ≤ l.length) : (insC l o).length = l.length + (wid o).toNat := by unfold insC newC; simp; omega
section
variable (l0 : List S48) (b : Int) (a0 a1 a2 a3 : Int) (a4 : ByteArray) (rs : List S94) (a6 a7 : Int) (a8 : Bool)
end
theorem nrm_len : ∀ {l : List S94} {x : Int}, Nrm x l → -1 ≤ x → 0 < l.length → (l.length : Int) ≤ lastHi l - x
 | [r], x, h, _, _ => by have := h.1; have := h.2.1; show (1 : Int) ≤ r.f1 - x; omega
 | r :: s :: t, x, h, hx, _ => by
  have := nrm_len (l := s :: t) h.2.2.2 (by have := h.1; have := h.2.1; omega) (by simp)
  have h1 := h.1; have h2 := h.2.1
  have e : lastHi (r :: s :: t) = lastHi (s :: t) := rfl
  rw [e]
  simp only [List.length_cons] at this ⊢
  omega
def foldE : List S48 → List S41 → List S48
 | l, [] => l
 | l, o :: t => foldE (doesE l o) t
def StandsL : List S48 → List S41 → Prop
 | _, [] => True
 | l, o :: t => Stands o l.length ∧ l.length ≤ 1000 ∧ StandsL (doesE l o) t
end Go.Proofs.YtloccjkcmlkifaaDoor
end

section
/- The operation of a spec: made. -/
namespace Go.Proofs.YtloccjkcmlkifaaDoor
open Go.RowKit Go.Proofs.YtloccjkcmlkifaaDoor.PAll Go.Proofs.YtloccjkcmlkifaaDoorW.PrintWords Go.Proofs.YtloccjkcmlkifaaDoorW.PrintLast

def GT (w : World) : Prop := 1 ≤ w.heap.size ∧ ∀ j, j < 5 → w.cell? ⟨0, j, none⟩ = some (.string (tx j))
theorem GT.below {w w' : World} (h : GT w) (hb : Below w.heap.size w w') : GT w' :=
 ⟨by have := hb.size; have := h.1; omega, fun j hj => (hb.cell (p := ⟨0, j, none⟩) (by show 0 < _; have := h.1; omega)).trans (h.2 j hj)⟩
structure MadeOK (o : S41) (c m : Int) (n : Nat) : Prop where
 id : o.f0.f0 = ⟨c, m⟩
 stands : Stands o n
 ins : o.f0.f1 = 1 → o.f3 = [] ∧ o.f4 = ⟨0, 0⟩ ∧ o.f5 = false
 cov : o.f0.f1 = 2 ∨ o.f0.f1 = 3 → o.f1 = 0 ∧ o.f2 = ⟨#[]⟩ ∧ o.f4 = ⟨0, 0⟩ ∧ o.f5 = false
 sta : o.f0.f1 = 4 → o.f1 = 0 ∧ o.f2 = ⟨#[]⟩ ∧ o.f3 = [] ∧ o.f4.f0 = 3 ∧ 1 ≤ o.f4.f1 ∧ o.f4.f1 ≤ 3
section
variable {P : Program} {ops : Array Oper} {rest : List Oper} {o : Oper} {a : Act} {Q : Exit → Act → World → Prop} {w0 W : World} {bs : List Bx} {F : World → Prop} {g : Nat} {t : TypeId} {cs : Array Value}
theorem ev_old (S : Aside0 (St w0 W bs F)) {p : Addr} {v : Value} (hc : w0.cell? p = some v) {N : Tmp} {ty : TypeId} {x : Operand}
 (h : wpList P ops Q rest (a.put (some N) v) W)
 (ho : o.op = .load ty x := by rfl) (hx : a.eval x = .pointer (some p) := by rfl) (hd : o.dst = some N := by rfl)
 (hw : Region.wanted o (yielded ops a.tmps) = true := by first | exact wanted_plain rfl | (refine wanted_on rfl ?_; first | (simp [yielded]; done) | rfl))
 (hrun : W.cell? p = some v → (execOp a.eval o).run P W = .ok (.value v) W := by intro hc_; first | (go_simp; done) | (go_simp; rfl)) : wpList P ops Q (o :: rest) a W :=
 have _ := ho; have _ := hx
 ev_run hw (hrun ((S.out.below.cell (World.block_lt_of_cell? w0 _ hc)).trans hc)) (by rw [hd]; exact h)
theorem ev_set2 (S : Aside0 (St w0 W bs F)) {i : Nat} {j : Nat} {ty : TypeId} {p : Tmp} {v : Operand} {u0 u1 : Value}
 (h : ∀ w', Aside0 (St w0 w' (bs.set i (g, t, (cs.setIfInBounds j u0).setIfInBounds (j + 1) u1)) F) → wpList P ops Q rest a w')
 (ho : o.op = .store ty (.tmp p) v := by rfl) (hp : a.eval (.tmp p) = .pointer (some ⟨g, j, none⟩) := by rfl) (e : bs[i]? = some (g, t, cs) := by first | exact ix0 | exact ix1 | exact ix2 | exact ix3) (hv : a.eval v = .agg #[u0, u1] := by rfl) (hN : o.dst = none := by rfl)
 (hw : Region.wanted o (yielded ops a.tmps) = true := by first | exact wanted_plain rfl | (refine wanted_on rfl ?_; first | (simp [yielded]; done) | rfl)) (hs : Nat.blt (j + 1) cs.size = true := by rfl) (hi : (P.info? ty).map (·.size) = some 2 := by kernel_rfl) (h1 : [u0, u1].all (·.oneCell') = true := by rfl) : wpList P ops Q (o :: rest) a W := by
 have hb := S.out.at_ i e
 have hs := Nat.le_of_ble_eq_true hs
 have hrun : (execOp a.eval o).run P W = .ok .skip (W.setCells g j [u0, u1]) := by
  unfold execOp
  simp only [ho, hp, hv, Sem.run_bind, Sem.run_pure, Result.andThen_ok, run_storeAt_mid W g j ty #[u0, u1] (fun k hk => ⟨by rw [blk_cell hb]; simp at hk ⊢; omega, blk_frozen hb _⟩) hi (by rw [← Array.all_toList]; exact h1)]
 refine ev_skip hw hN hrun (h _ ⟨S.out.put i e (below_setCells _ _ _ S.out.below (S.out.ge i e)) ?_ (fun k hk => setCells_far _ _ _ k hk)⟩)
 exact blk_put (blk_put hb j u0 rfl) (j + 1) u1 rfl
end
set_option maxRecDepth 100000 in
set_option maxHeartbeats 4000000 in
theorem made_any (kd at_ n : Int) (A : Option Addr) (c : Nat) (l : List Int) (on : Bool) (ci m : Int) (total : Nat) (w : World) (hT : GT w) (hr : Kd.C (Kd.int .i64) w A l.length l) (hc : l.length ≤ c) (ht : total ≤ 1000) :
 ∃ o, MadeOK o ci m total ∧ Calls Tryd.prog 29 #[.agg #[.int .i64 kd, .int .i64 at_, .int .i64 n, .slice A l.length c, .bool on], .agg #[.int .i64 ci, .int .i64 m], .int .i64 total] w (IsOp w o) := by
 obtain ⟨k7, h1, b1, b2, _⟩ := within_is kd 7 (by omega)
 replace b2 := b2 (by omega)
 have H1 := Aside0.mk h1
 have S := Aside0.mk (St.init w (F := fun _ => True) (fun _ _ => trivial))
 have HR := Aside0.mk hr; have HC := Aside0.mk hc
 clear h1 hr hc
 by_cases c6 : k7 = 6
 · subst c6
   obtain ⟨t, h2, d1, d2, _⟩ := within_is n 3 (by omega)
   replace d2 := d2 (by omega)
   have H2 := Aside0.mk h2
   clear h2 hT ht b1 b2
   refine ⟨⟨⟨⟨ci, m⟩, 4⟩, 0, ⟨#[]⟩, [], ⟨3, 1 + t⟩, on⟩, ⟨rfl, ⟨by simp, by simp, by simp⟩, by simp, by simp, fun _ => ⟨rfl, rfl, rfl, rfl, by show 1 ≤ 1 + t; omega, by show 1 + t ≤ 3; omega⟩⟩, ?_⟩
   have hq : IntKind.i64.wrap (1 + t) = 1 + t := IntWalk.i64_in _ (by omega)
   clear d1 d2
   go_enter Tryd.func29, Tryd.ntmps29
   go_wp2_with (first | ((with_reducible refine gate_box rfl ?_); refine ev_box S ?_; clear S; intro _ _ S) | ((with_reducible refine gate_new rfl ?_); refine ev_new S 41 zA ?_; clear S; intro _ _ S) | ((with_reducible refine gate_load rfl ?_); refine ev_load S ?_ (hu := Tryd.underlying35)) | ((with_reducible refine gate_load rfl ?_); first | refine ev_load S ?_ | refine ev_fld S ?_) | ((with_reducible refine gate_st rfl ?_); refine ev_store S ?_; clear S; intro _ S) | ((with_reducible refine gate_st rfl ?_); refine ev_set2 S ?_; clear S; intro _ S) | ((with_reducible refine gate_st rfl ?_); refine ev_set S ?_; clear S; intro _ S) | (go_at_call 18; (with_reducible refine (redraftlaw05_within.calls kd 7 _ _ H1.out).mono ?_); rintro e_ w7 ⟨rfl, hb⟩; replace S := Aside0.mk (S.out.step hb.below); clear hb) | (go_at_call 18; (with_reducible refine (redraftlaw05_within.calls n 3 _ _ H2.out).mono ?_); rintro e_ w7 ⟨rfl, hb⟩; replace S := Aside0.mk (S.out.step hb.below); clear hb))
   exact bodyPost_ret (results_cell_row rfl _ _ _ 41 _ (0, 0) _ rfl (S.out.at_ 1 rfl) Tryd.underlying41 rfl (by kernel_rfl)) rfl ⟨.slice none 0 0, rfl, Kd.R_nil _ _ _ _ _, S.out.below⟩
 · have e6 : (k7 == 6) = false := beq_eq_false_iff_ne.mpr c6
   by_cases c3 : k7 < 3 ∨ total = 0
   · obtain ⟨p, h3, p1, p2, _⟩ := within_is at_ ((total : Int) + 1) (by omega)
     replace p2 := p2 (by omega)
     obtain ⟨t, h4, d1, d2, _⟩ := within_is n 5 (by omega)
     replace d2 := d2 (by omega)
     have H3 := Aside0.mk h3; have H4 := Aside0.mk h4
     obtain ⟨j, hj, hjt⟩ : ∃ j : Nat, j < 5 ∧ (j : Int) = t := ⟨t.toNat, by omega, by omega⟩
     refine ⟨⟨⟨⟨ci, m⟩, 1⟩, p, tx j, [], ⟨0, 0⟩, false⟩, ⟨rfl, ⟨by simp, fun _ => ⟨p1, by show p ≤ (total : Int); omega, j, hj, rfl⟩, by simp⟩, fun _ => ⟨rfl, rfl, rfl⟩, by simp, by simp⟩, ?_⟩
     have hq : IntKind.i64.wrap ((total : Int) + 1) = (total : Int) + 1 := IntWalk.i64_in _ (by omega)
     have HX := Aside0.mk (hT.2 j hj)
     subst hjt
     clear h3 h4 hT p1 p2 d1 d2 ht b1 b2 c6
     rcases (by omega : j = 0 ∨ j = 1 ∨ j = 2 ∨ j = 3 ∨ j = 4) with rfl | rfl | rfl | rfl | rfl
     all_goals
      clear hj
      by_cases c4 : k7 < 3
      · have e3 := decide_eq_true c4
        clear c3 c4
        go_enter Tryd.func29, Tryd.ntmps29
        go_wp2_with (first | ((with_reducible refine gate_box rfl ?_); refine ev_box S ?_; clear S; intro _ _ S) | ((with_reducible refine gate_new rfl ?_); refine ev_new S 41 zA ?_; clear S; intro _ _ S) | ((with_reducible refine gate_load rfl ?_); refine ev_load S ?_ (hu := Tryd.underlying35)) | ((with_reducible refine gate_load rfl ?_); first | refine ev_load S ?_ | refine ev_fld S ?_) | ((with_reducible refine gate_st rfl ?_); refine ev_store S ?_; clear S; intro _ S) | ((with_reducible refine gate_st rfl ?_); refine ev_set S ?_; clear S; intro _ S) | ((with_reducible refine gate_load rfl ?_); refine ev_old S HX.out ?_) | (go_at_call 18; (with_reducible refine (redraftlaw05_within.calls kd 7 _ _ H1.out).mono ?_); rintro e_ w7 ⟨rfl, hb⟩; replace S := Aside0.mk (S.out.step hb.below); clear hb) | (go_at_call 18; (with_reducible refine (redraftlaw05_within.calls at_ ((total : Int) + 1) _ _ H3.out).mono ?_); rintro e_ w7 ⟨rfl, hb⟩; replace S := Aside0.mk (S.out.step hb.below); clear hb) | (go_at_call 18; (with_reducible refine (redraftlaw05_within.calls n 5 _ _ H4.out).mono ?_); rintro e_ w7 ⟨rfl, hb⟩; replace S := Aside0.mk (S.out.step hb.below); clear hb))
        exact bodyPost_ret (results_cell_row rfl _ _ _ 41 _ (0, 0) _ rfl (S.out.at_ 1 rfl) Tryd.underlying41 rfl (by kernel_rfl)) rfl ⟨.slice none 0 0, rfl, Kd.R_nil _ _ _ _ _, S.out.below⟩
      · have e3 := decide_eq_false c4
        have e0 : (((total : Nat) : Int) == 0) = true := beq_iff_eq.mpr (by omega)
        clear c3 c4
        go_enter Tryd.func29, Tryd.ntmps29
        go_wp2_with (first | ((with_reducible refine gate_box rfl ?_); refine ev_box S ?_; clear S; intro _ _ S) | ((with_reducible refine gate_new rfl ?_); refine ev_new S 41 zA ?_; clear S; intro _ _ S) | ((with_reducible refine gate_load rfl ?_); refine ev_load S ?_ (hu := Tryd.underlying35)) | ((with_reducible refine gate_load rfl ?_); first | refine ev_load S ?_ | refine ev_fld S ?_) | ((with_reducible refine gate_st rfl ?_); refine ev_store S ?_; clear S; intro _ S) | ((with_reducible refine gate_st rfl ?_); refine ev_set S ?_; clear S; intro _ S) | ((with_reducible refine gate_load rfl ?_); refine ev_old S HX.out ?_) | (go_at_call 18; (with_reducible refine (redraftlaw05_within.calls kd 7 _ _ H1.out).mono ?_); rintro e_ w7 ⟨rfl, hb⟩; replace S := Aside0.mk (S.out.step hb.below); clear hb) | (go_at_call 18; (with_reducible refine (redraftlaw05_within.calls at_ ((total : Int) + 1) _ _ H3.out).mono ?_); rintro e_ w7 ⟨rfl, hb⟩; replace S := Aside0.mk (S.out.step hb.below); clear hb) | (go_at_call 18; (with_reducible refine (redraftlaw05_within.calls n 5 _ _ H4.out).mono ?_); rintro e_ w7 ⟨rfl, hb⟩; replace S := Aside0.mk (S.out.step hb.below); clear hb))
        exact bodyPost_ret (results_cell_row rfl _ _ _ 41 _ (0, 0) _ rfl (S.out.at_ 1 rfl) Tryd.underlying41 rfl (by kernel_rfl)) rfl ⟨.slice none 0 0, rfl, Kd.R_nil _ _ _ _ _, S.out.below⟩
   · obtain ⟨K, r, hP, hne, hN, q, s, hr, hs⟩ := picked_is total (by omega) kd at_ n l on
     have HP := Aside0.mk hP
     have e3 : decide (k7 < 3) = false := decide_eq_false (by omega)
     have et : (((total : Nat) : Int) == 0) = false := beq_eq_false_iff_ne.mpr (by omega)
     have hlast : lastHi r ≤ (total : Int) := by rw [hr, lastHi_snoc]; exact hs
     have hlen : 0 < r.length := by rw [hr]; simp
     by_cases c5 : k7 = 5
     · have e5 := beq_iff_eq.mpr c5
       refine ⟨⟨⟨⟨ci, m⟩, 3⟩, 0, ⟨#[]⟩, r, ⟨0, 0⟩, false⟩, ⟨rfl, ⟨by simp, by simp, fun _ => ⟨hlen, hN, hlast⟩⟩, by simp, fun _ => ⟨rfl, rfl, rfl, rfl⟩, by simp⟩, ?_⟩
       clear hP hne hN hr hs hlast hlen c3 c5 c6 b1 b2 ht hT
       go_enter Tryd.func29, Tryd.ntmps29
       go_wp2_with (first | ((with_reducible refine gate_box rfl ?_); refine ev_box S ?_; clear S; intro _ _ S) | ((with_reducible refine gate_new rfl ?_); refine ev_new S 41 zA ?_; clear S; intro _ _ S) | ((with_reducible refine gate_load rfl ?_); refine ev_load S ?_ (hu := Tryd.underlying35)) | ((with_reducible refine gate_load rfl ?_); refine ev_load S ?_ (hu := Tryd.underlying57)) | ((with_reducible refine gate_load rfl ?_); first | refine ev_load S ?_ | refine ev_fld S ?_) | ((with_reducible refine gate_st rfl ?_); refine ev_store S ?_; clear S; intro _ S) | ((with_reducible refine gate_st rfl ?_); refine ev_set S ?_; clear S; intro _ S) | (go_at_call 18; (with_reducible refine (redraftlaw05_within.calls kd 7 _ _ H1.out).mono ?_); rintro e_ w7 ⟨rfl, hb⟩; replace S := Aside0.mk (S.out.step hb.below); clear hb) | (go_at_call 57; (with_reducible refine (redraftlaw05_picked.calls K kd at_ n A c l on (total : Int) r _ (Kd.C_below HR.out S.out.below) HC.out HP.out).mono ?_); rintro e_ w7 ⟨v, rfl, hR, hb⟩; replace S := Aside0.mk (S.out.addR hb hR); obtain ⟨Av, cv, rfl⟩ := Kd.R_slice hR; clear hb hR))
       exact bodyPost_ret (results_cell_row rfl _ _ _ 41 _ (0, 0) _ rfl (S.out.at_ 1 rfl) Tryd.underlying41 rfl (by kernel_rfl)) rfl ⟨_, rfl, S.out.now.2, S.out.below⟩
     · have e5 := beq_eq_false_iff_ne.mpr c5
       refine ⟨⟨⟨⟨ci, m⟩, 2⟩, 0, ⟨#[]⟩, r, ⟨0, 0⟩, false⟩, ⟨rfl, ⟨by simp, by simp, fun _ => ⟨hlen, hN, hlast⟩⟩, by simp, fun _ => ⟨rfl, rfl, rfl, rfl⟩, by simp⟩, ?_⟩
       clear hP hne hN hr hs hlast hlen c3 c5 c6 b1 b2 ht hT
       go_enter Tryd.func29, Tryd.ntmps29
       go_wp2_with (first | ((with_reducible refine gate_box rfl ?_); refine ev_box S ?_; clear S; intro _ _ S) | ((with_reducible refine gate_new rfl ?_); refine ev_new S 41 zA ?_; clear S; intro _ _ S) | ((with_reducible refine gate_load rfl ?_); refine ev_load S ?_ (hu := Tryd.underlying35)) | ((with_reducible refine gate_load rfl ?_); refine ev_load S ?_ (hu := Tryd.underlying57)) | ((with_reducible refine gate_load rfl ?_); first | refine ev_load S ?_ | refine ev_fld S ?_) | ((with_reducible refine gate_st rfl ?_); refine ev_store S ?_; clear S; intro _ S) | ((with_reducible refine gate_st rfl ?_); refine ev_set S ?_; clear S; intro _ S) | (go_at_call 18; (with_reducible refine (redraftlaw05_within.calls kd 7 _ _ H1.out).mono ?_); rintro e_ w7 ⟨rfl, hb⟩; replace S := Aside0.mk (S.out.step hb.below); clear hb) | (go_at_call 57; (with_reducible refine (redraftlaw05_picked.calls K kd at_ n A c l on (total : Int) r _ (Kd.C_below HR.out S.out.below) HC.out HP.out).mono ?_); rintro e_ w7 ⟨v, rfl, hR, hb⟩; replace S := Aside0.mk (S.out.addR hb hR); obtain ⟨Av, cv, rfl⟩ := Kd.R_slice hR; clear hb hR))
       exact bodyPost_ret (results_cell_row rfl _ _ _ 41 _ (0, 0) _ rfl (S.out.at_ 1 rfl) Tryd.underlying41 rfl (by kernel_rfl)) rfl ⟨_, rfl, S.out.now.2, S.out.below⟩
theorem made_in (kd at_ n : Int) (A : Option Addr) (c : Nat) (l : List Int) (on : Bool) (ci m : Int) (total : Nat) (w : World) (hT : GT w) (hr : Kd.C (Kd.int .i64) w A l.length l) (hc : l.length ≤ c) (ht : total ≤ 1000) :
 Calls Tryd.prog 29 #[.agg #[.int .i64 kd, .int .i64 at_, .int .i64 n, .slice A l.length c, .bool on], .agg #[.int .i64 ci, .int .i64 m], .int .i64 total] w fun e w' => ∃ o v, e = .returned (.agg (opA o v)) ∧ MadeOK o ci m total ∧ OpR w' w.heap.size v o ∧ Below w.heap.size w w' := by
 obtain ⟨o, h, hC⟩ := made_any kd at_ n A c l on ci m total w hT hr hc ht
 exact hC.mono fun e w' ⟨v, h1, h2, h3⟩ => ⟨o, v, h1, h, h2, h3⟩
theorem lwid_any {o : S41} {n : Nat} (h : Stands o n) (v : Value) (w : World) (ho : OpC w v o) : Calls Tryd.prog 28 #[.agg (opA o v)] w fun e w' => e = .returned (.int .i64 (wid o)) ∧ Below w.heap.size w w' := by
 obtain ⟨A, c, rfl, h1, h2⟩ := ho
 exact redraftlaw05_width.calls 20 _ _ _ _ _ A c o.f3 _ _ _ (wid o) w h2 h1 (lwidth_is h)
end Go.Proofs.YtloccjkcmlkifaaDoor
end

section
/- What is made of right operations is right. -/
namespace Go.Proofs.YtloccjkcmlkifaaDoor
open Go.RowKit Go.Proofs.YtloccjkcmlkifaaDoor.PAll Go.Proofs.YtloccjkcmlkifaaDoorW.PrintWords

theorem own_mk_ins {o : S41} (k : o.f0.f1 = 1) (hb : ¬ badID o) (he : extraB o = false) (h1 : (chk o.f2).2.2 = 0) (h2 : 1 ≤ (chk o.f2).1 ∧ (chk o.f2).1 ≤ 256) (h3 : 0 ≤ o.f1 ∧ o.f1 + (chk o.f2).1 ≤ 1048576) : ownE o = 0 := by
 have ht : totOf o = o.f1 := by unfold totOf; rw [if_pos ⟨k, by omega, by omega⟩]
 unfold ownE checkE
 rw [ht, if_neg (show ¬ (o.f1 < 0 ∨ 1048576 < o.f1) by omega), if_neg (show ¬ (o.f0.f1 < 1 ∨ 4 < o.f0.f1) by omega), if_neg hb, if_neg (show ¬ extraB o = true by rw [he]; simp), if_pos k]
 unfold insE
 rw [if_pos h1, if_neg (show ¬ (chk o.f2).1 = 0 by omega), if_neg (show ¬ 256 < (chk o.f2).1 by omega), if_neg (show ¬ (o.f1 < 0 ∨ o.f1 < o.f1) by omega), if_neg (show ¬ 1048576 < o.f1 + (chk o.f2).1 by omega)]
theorem own_mk_cov {o : S41} (k : o.f0.f1 = 2 ∨ o.f0.f1 = 3) (hb : ¬ badID o) (he : extraB o = false) (h0 : 0 < o.f3.length) (h1 : (rngE o.f3).2 = 0) (h2 : lastHi o.f3 ≤ 1048576) : ownE o = 0 := by
 have ht : totOf o = 1048576 := by unfold totOf; rw [if_neg (show ¬ (o.f0.f1 = 1 ∧ 0 ≤ o.f1 ∧ o.f1 ≤ 1048576) by omega)]
 unfold ownE checkE
 rw [ht, if_neg (by omega), if_neg (show ¬ (o.f0.f1 < 1 ∨ 4 < o.f0.f1) by omega), if_neg hb, if_neg (show ¬ extraB o = true by rw [he]; simp), if_neg (show ¬ o.f0.f1 = 1 by omega), if_neg (show ¬ o.f0.f1 = 4 by omega)]
 unfold rgsE
 rw [if_neg (by omega), if_pos h1, if_neg (by omega)]
theorem good_move {a : S41} (g : Good a) (k : a.f0.f1 = 1) {p : Int} (hp : 0 ≤ p) (h : (moveE a p).2 = 0) : Good (moveE a p).1 := by
 have hw := g.wid1 k
 have e : wid a = (chk a.f2).1 := if_pos k
 have ho := own_ok g.own
 have hi := own_ins g.own g.fine.1 k
 unfold moveE at h ⊢
 by_cases c : 1048576 < p + wid a
 · rw [if_pos c] at h; exact absurd h (by simp)
 · rw [if_neg c]
   refine ⟨own_mk_ins k ho.2.2.1 ?_ hi.2.2.1 ⟨hi.2.2.2.1, hi.2.2.2.2.1⟩ ⟨hp, by show p + (chk a.f2).1 ≤ 1048576; omega⟩, g.fine.1, by simp⟩
   have := g.extra
   unfold extraB at this ⊢
   have hq := of_decide_eq_false this
   refine decide_eq_false fun h => ?_
   rcases h with h | h | h
   · exact h.1 k
   · exact absurd rfl h.2.2
   · exact hq (.inr (.inr h))
theorem good_ranged {a : S41} (g : Good a) (k : a.f0.f1 = 2 ∨ a.f0.f1 = 3) {l : List S94} (h0 : 0 < l.length) (hl : l.length ≤ 32768) (hn : Nrm (-1) l) : Good ⟨a.f0, a.f1, a.f2, l, a.f4, a.f5⟩ := by
 have ho := own_ok g.own
 have hr := ok_rng hl hn
 refine ⟨own_mk_cov k ho.2.2.1 ?_ h0 (by rw [hr]) (last_bound (by rw [hr])).2, g.fine.1, by show l.length ≤ 1048576; omega⟩
 have := g.extra
 unfold extraB at this ⊢
 have hq := of_decide_eq_false this
 refine decide_eq_false fun h => ?_
 rcases h with h | h | h
 · exact hq (.inl h)
 · have h1 : a.f0.f1 ≠ 2 := h.1
   have h2 : a.f0.f1 ≠ 3 := h.2.1
   omega
 · exact hq (.inr (.inr h))
theorem inc_good {a b : S41} {e : Bool} (ga : Good a) (gb : Good b) (h : (incE a b e).2 = 0) : Good (incE a b e).1 := by
 unfold incE incP at h ⊢
 by_cases c1 : clashB a b = true
 · rw [if_pos c1] at h; exact absurd h (by simp)
 rw [if_neg c1] at h ⊢
 by_cases c2 : b.f0.f1 = 1
 case neg => rw [if_pos c2]; exact ga
 rw [if_neg (fun q => q c2)] at h ⊢
 have hb := gb.wid1 c2
 by_cases c3 : a.f0.f1 = 1
 · rw [if_pos c3] at h ⊢
   have ha := ga.wid1 c3
   by_cases c4 : b.f1 < a.f1 ∨ b.f1 = a.f1 ∧ e = true
   · rw [if_pos c4] at h ⊢
     exact good_move ga c3 (by omega) h
   · rw [if_neg c4]; exact ga
 · rw [if_neg c3] at h ⊢
   by_cases c4 : a.f0.f1 = 2 ∨ a.f0.f1 = 3
   case neg => rw [if_neg c4]; exact ga
   rw [if_pos c4] at h ⊢
   have hrg := ga.rng c4
   obtain ⟨hlen, hN⟩ := rng_ok hrg
   have hl0 : 0 < a.f3.length := Nat.pos_of_ne_zero ((own_ok ga.own).2.2.2.2.2.1 c4).1
   have hlb := last_bound hrg
   unfold rangedE thrE at h ⊢
   by_cases c5 : 0 < a.f3.length ∧ b.f1 < lastHi a.f3 ∧ 1048576 < lastHi a.f3 + wid b
   · rw [if_pos c5] at h; exact absurd h (by simp)
   rw [if_neg c5] at h ⊢
   unfold bnd at h ⊢
   by_cases c6 : 32768 < (thrS b.f1 (wid b) a.f3).length
   · rw [if_pos c6] at h; exact absurd h (by simp)
   rw [if_neg c6] at h ⊢
   rw [if_pos rfl]
   have hB := thrS_nrm b.f1 (wid b) hb.1 a.f3 (-1) hN
   have hlast : lastHi (thrS b.f1 (wid b) a.f3) ≤ 1048576 := by
    rw [thr_last _ _ hl0]
    unfold sh
    split
    · omega
    · have := fun q => c5 ⟨hl0, by omega, q⟩
      omega
   refine good_ranged ga c4 (thrS_ne _ _ hl0) (by show (thrS b.f1 (wid b) a.f3).length ≤ 32768; omega) ?_
   have hsh : sh b.f1 (wid b) (-1) = -1 := by unfold sh; rw [if_pos (by omega)]
   rw [hsh] at hB
   exact hB.nrm fun r hr => by have := hB.le_last r hr; omega
end Go.Proofs.YtloccjkcmlkifaaDoor
end

section
/- Runs: their own errors, on both sides; an element that is read. -/
namespace Go.Proofs.YtloccjkcmlkifaaDoor
open Go.RowKit Go.Proofs.YtloccjkcmlkifaaDoor.PAll Go.Proofs.YtloccjkcmlkifaaDoorW.PrintWords

def ownsE : List S41 → Int
 | [] => 0
 | o :: t => if ownE o = 0 then ownsE t else ownE o
theorem owns_good : ∀ {l : List S41}, ownsE l = 0 → (∀ o ∈ l, fineOp o) → ∀ o ∈ l, Good o
 | o :: t, h, hf, x, hx => by
  unfold ownsE at h
  by_cases c : ownE o = 0
  · rw [if_pos c] at h
    rcases List.mem_cons.1 hx with rfl | hx
    · exact ⟨c, hf _ (by simp)⟩
    · exact owns_good h (fun y hy => hf y (by simp [hy])) x hx
  · rw [if_neg c] at h; exact absurd h c
theorem owns_loop (l : List S41) (hf : ∀ o ∈ l, fineOp o) (hl : l.length ≤ 1048576) : ∀ (d i : Nat), l.length = i + d → Ev (fun k => xform_owns.l0 k l (l.length : Int) (i : Int)) (ownsE (l.drop i)) := by
 intro d
 induction d with
 | zero =>
  intro i h
  refine ⟨1, fun k hk => ?_⟩
  obtain ⟨k, rfl⟩ : ∃ m, k = m + 1 := ⟨k - 1, by omega⟩
  simp only
  rw [xform_owns.l0, if_neg (by omega), List.drop_eq_nil_of_le (by omega)]
  rfl
 | succ d ih =>
  intro i h
  have hi : i < l.length := by omega
  obtain ⟨K1, h1⟩ := ih (i + 1) (by omega)
  obtain ⟨o, ho⟩ : ∃ o, o = l.getD i z41 := ⟨_, rfl⟩
  have hd : l.drop i = o :: l.drop (i + 1) := by
   rw [ho, List.drop_eq_getElem_cons hi, List.getD_eq_getElem?_getD, List.getElem?_eq_getElem hi]; rfl
  have hm : o ∈ l := by
   rw [ho, List.getD_eq_getElem?_getD, List.getElem?_eq_getElem hi]; exact List.getElem_mem hi
  have hfo := hf o hm
  obtain ⟨K2, h2⟩ := own_is o hfo.1 (by have := hfo.2; omega)
  dsimp only at h1 h2
  have e : rd_T41 l (i : Int) = o := by unfold rd_T41; rw [Int.toNat_natCast, ho]
  have w : wrap64 ((i : Int) + 1) = ((i + 1 : Nat) : Int) := by rw [wrap_id (by omega) (by omega)]; omega
  have q1 : (i : Int) < (l.length : Int) := by omega
  have q2 : (0 : Int) ≤ (i : Int) := by omega
  refine ⟨K1 + K2 + 1, fun k hk => ?_⟩
  obtain ⟨k, rfl⟩ : ∃ m, k = m + 1 := ⟨k - 1, by omega⟩
  simp only
  rw [xform_owns.l0, if_pos q1, if_pos q2, if_pos q1, e, h2 k (by omega)]
  simp only [Option.bind_some]
  rw [hd]
  unfold ownsE
  by_cases c : ownE o = 0
  · rw [if_pos c, if_pos c, w, h1 k (by omega)]
  · rw [if_neg c, if_neg c]
def RunC (w : World) (v : Value) (l : List S41) : Prop := ∃ A c, v = .slice A l.length c ∧ l.length ≤ c ∧ k41.C w A l.length l
theorem RunC.below {w w' : World} {v : Value} {l : List S41} (h : RunC w v l) (hb : Below w.heap.size w w') : RunC w' v l := by
 obtain ⟨A, c, e, h1, h2⟩ := h
 exact ⟨A, c, e, h1, Kd.C_below h2 hb⟩
theorem runC_mk {w : World} {l : List S41} {A : Option Addr} {c : Nat} (h1 : l.length ≤ c) (h2 : k41.C w A l.length l) : RunC w (.slice A l.length c) l := ⟨A, c, rfl, h1, h2⟩
theorem owns_any (l : List S41) (v : Value) (w : World) (hG : GW w) (h : RunC w v l) (hf : ∀ o ∈ l, fineOp o) (hl : l.length ≤ 1048576) : Calls Tryd.prog 55 #[v] w fun e w' => e = .returned (.int .i64 (ownsE l)) ∧ Below w.heap.size w w' := by
 obtain ⟨A, c, rfl, h1, h2⟩ := h
 obtain ⟨K, hK⟩ := owns_loop l hf hl l.length 0 (by omega)
 exact xform_owns.calls K A c l _ w h2 h1 hG (by unfold xform_owns.f; exact hK K (Nat.le_refl _))
theorem own_any (o : S41) (v : Value) (w : World) (hG : GW w) (h : OpC w v o) (hf : fineOp o) : Calls Tryd.prog 52 #[.agg (opA o v)] w fun e w' => e = .returned (.int .i64 (ownE o)) ∧ Below w.heap.size w w' := by
 obtain ⟨A, c, rfl, h1, h2⟩ := h
 obtain ⟨K, hK⟩ := own_is o hf.1 (by have := hf.2; omega)
 exact xform_own.calls K _ _ _ _ _ A c o.f3 _ _ _ _ w h2 h1 hG (hK K (Nat.le_refl _))
theorem elem_C {w : World} {A : Option Addr} {l : List S41} (h : k41.C w A l.length l) (i : Nat) (hi : i < l.length) :
 ∃ ad A5 c5, A = some ad ∧ (∀ W, Below w.heap.size w W → atL W (ad.add (i * 9)) 0 (opA (l.getD i z41) (.slice A5 (l.getD i z41).f3.length c5)).toList) ∧ OpC w (.slice A5 (l.getD i z41).f3.length c5) (l.getD i z41) := by
 obtain ⟨ad, c, e, _, hK, hc⟩ := Kd.C_get h z41 (i : Int) (by omega) (by omega)
 rw [Int.toNat_natCast] at hK hc
 obtain ⟨A5, c5, rfl, l5, g5⟩ := k41_open hK
 refine ⟨ad, A5, c5, e, fun W hb => atL_mk fun j v hj => ?_, opC_mk l5 g5⟩
 have := hc j v hj
 have h2 : W.cell? (ad.add (i * 9 + j)) = some v := pw_cell_below hb this
 have h3 : (ad.add (i * 9)).add (0 + j) = ad.add (i * 9 + j) := by
  by_cases hj0 : j = 0
  · subst hj0
    rfl
  · rw [add_field ad (i * 9) j (by omega)]
    unfold Addr.add
    rw [if_neg (by omega), Nat.zero_add]
 rw [h3]; exact h2
end Go.Proofs.YtloccjkcmlkifaaDoor
end

section
/- xform.Over: an operation carried over a run. -/
namespace Go.Proofs.YtloccjkcmlkifaaDoor
open Go.RowKit Go.Proofs.YtloccjkcmlkifaaDoor.PAll Go.Proofs.YtloccjkcmlkifaaDoorW.PrintWords

section
variable {P : Program} {ops : Array Oper} {rest : List Oper} {o : Oper} {a : Act} {Q : Exit → Act → World → Prop} {W : World}
theorem ev_ext (cs : Array Value) {N : Tmp} {ty : TypeId} {x : Operand} {d : TypeDesc} {ad : Addr} (hc : atL W ad 0 cs.toList)
 (h : wpList P ops Q rest (a.put (some N) (.agg cs)) W)
 (ho : o.op = .load ty x := by rfl) (hx : a.eval x = .pointer (some ad) := by rfl) (hd : o.dst = some N := by rfl)
 (hw : Region.wanted o (yielded ops a.tmps) = true := by first | exact wanted_plain rfl | (refine wanted_on rfl ?_; simp [yielded])) (hu : P.underlying ty = some d := by first | exact Tryd.underlying41 | exact Tryd.underlying100) (hdd : (match d with | .struct _ | .array _ _ => true | _ => false) = true := by rfl) (hi : (P.info? ty).map (·.size) = some cs.size := by kernel_rfl) : wpList P ops Q (o :: rest) a W := by
 have hr := run_load_wide (P := P) W ad ty cs.toList d hc hu hdd (by simpa using hi)
 refine ev_run (v := .agg cs) hw ?_ (by rw [hd]; exact h)
 unfold execOp
 simp only [ho, hx, Instr.loadAt, Instr.sureAddr, Sem.run_bind, Sem.run_pure, Result.andThen_ok, hr]
end

def overF (e : Bool) (s : S41 × Int) (x : S41) : S41 × Int := if s.2 = 0 then incE s.1 x e else s
theorem over_stop (e : Bool) (s : S41 × Int) (h : s.2 ≠ 0) : ∀ l : List S41, l.foldl (overF e) s = s
 | [] => rfl
 | x :: t => by
  rw [List.foldl_cons]
  have : overF e s x = s := if_neg h
  rw [this]; exact over_stop e s h t
theorem over_good (e : Bool) : ∀ (l : List S41) (s : S41 × Int), (∀ o ∈ l, Good o) → (s.2 = 0 → Good s.1) → (l.foldl (overF e) s).2 = 0 → Good (l.foldl (overF e) s).1
 | [], _, _, h, h0 => h h0
 | x :: t, s, hl, h, h0 => by
  rw [List.foldl_cons] at h0 ⊢
  refine over_good e t _ (fun o ho => hl o (by simp [ho])) (fun hs => ?_) h0
  unfold overF at hs ⊢
  by_cases c : s.2 = 0
  · rw [if_pos c] at hs ⊢
    exact inc_good (h c) (hl x (by simp)) hs
  · rw [if_neg c] at hs; exact absurd hs c
def overE (o : S41) (e : Bool) (run : List S41) : S41 × Int :=
 if ownE o ≠ 0 then (z41, ownE o) else if ownsE run ≠ 0 then (z41, ownsE run) else
  if (run.foldl (overF e) (o, 0)).2 = 0 then run.foldl (overF e) (o, 0) else (z41, (run.foldl (overF e) (o, 0)).2)
theorem fold_take (e : Bool) (run : List S41) (s : S41 × Int) (k : Nat) (hk : k < run.length) : (run.take (k + 1)).foldl (overF e) s = overF e ((run.take k).foldl (overF e) s) (run.getD k z41) := by
 rw [List.take_succ_eq_append_getElem hk, List.foldl_append, List.getD_eq_getElem?_getD, List.getElem?_eq_getElem hk]
 rfl
structure OverAt (err : Int) (o : S41) (e : Bool) (run : List S41) (w : World) (g6 g3 : Nat) (k : Nat) (s : S41 × Int) (A : Option Addr) (c : Nat) (wr : World) : Prop where
 eq : s = (run.take k).foldl (overF e) (o, err)
 st : St w wr [(g6, 41, zA), (g3, 41, opA s.1 (.slice A s.1.f3.length c))] (fun W => True ∧ OpR W w.heap.size (.slice A s.1.f3.length c) s.1)
theorem over_end {err : Int} {o : S41} {e : Bool} {run : List S41} {k : Nat} {s : S41 × Int} (h : s = (run.take k).foldl (overF e) (o, err)) (hk : ¬ k < run.length ∨ s.2 ≠ 0) : run.foldl (overF e) (o, err) = s := by
 have : run.foldl (overF e) (o, err) = (run.drop k).foldl (overF e) s := by rw [h, ← List.foldl_append, List.take_append_drop]
 rw [this]
 rcases hk with hk | hk
 · rw [List.drop_eq_nil_of_le (by omega)]; rfl
 · exact over_stop e s hk _
def overErr (o : S41) (run : List S41) : Int := if ownE o = 0 then ownsE run else ownE o
theorem overE_eq (o : S41) (e : Bool) (run : List S41) : overE o e run = if (run.foldl (overF e) (o, overErr o run)).2 = 0 then run.foldl (overF e) (o, overErr o run) else (z41, (run.foldl (overF e) (o, overErr o run)).2) := by
 unfold overE overErr
 by_cases c1 : ownE o = 0
 · rw [if_neg (fun h => h c1), if_pos c1]
   by_cases c2 : ownsE run = 0
   · rw [if_neg (fun h => h c2), c2]
   · rw [if_pos c2, over_stop e (o, ownsE run) c2, if_neg c2]
 · rw [if_pos c1, if_neg c1, over_stop e (o, ownE o) c1, if_neg c1]
theorem over_goods {err : Int} {o : S41} {e : Bool} {run : List S41} (he : err = overErr o run) {k : Nat} {s : S41 × Int} (h : s = (run.take k).foldl (overF e) (o, err)) (h0 : s.2 = 0) (hfo : fineOp o) (hf : ∀ x ∈ run, fineOp x) : Good s.1 ∧ ∀ x ∈ run, Good x := by
 have e0 : err = 0 := by
  by_cases c : err = 0
  · exact c
  · rw [over_stop e (o, err) c] at h
    rw [h] at h0; exact absurd h0 c
 unfold overErr at he
 by_cases c1 : ownE o = 0
 · rw [if_pos c1] at he
   have gr := owns_good (he.symm.trans e0) hf
   refine ⟨?_, gr⟩
   rw [h] at h0 ⊢
   exact over_good e _ (o, err) (fun y hy => gr y (List.mem_of_mem_take hy)) (fun _ => ⟨c1, hfo⟩) h0
 · rw [if_neg c1] at he; exact absurd (he.symm.trans e0) c1
set_option maxRecDepth 100000 in
set_option maxHeartbeats 4000000 in
theorem over_any (o : S41) (e : Bool) (run : List S41) (vo vr : Value) (w : World) (hG : GW w) (ho : OpC w vo o) (hr : RunC w vr run) (hfo : fineOp o) (hf : ∀ x ∈ run, fineOp x) (hl : run.length ≤ 1048576) :
 Calls Tryd.prog 42 #[.agg (opA o vo), .bool e, vr] w (RetOp w (overE o e run)) := by
 obtain ⟨A, c, rfl, h1, h2⟩ := ho
 obtain ⟨B, d, rfl, h3, h4⟩ := hr
 have S := Aside0.mk (St.init w (F := fun _ => True) (fun _ _ => trivial))
 have HO := Aside0.mk (opC_mk h1 h2); have HR := Aside0.mk (runC_mk h3 h4)
 have HE := Aside0.mk (fun i hi => elem_C h4 i hi)
 have HG := Aside0.mk hG
 have HF := Aside0.mk (show fineOp o ∧ (∀ x ∈ run, fineOp x) ∧ run.length ≤ 1048576 from ⟨hfo, hf, hl⟩)
 have HL := Aside0.mk hfo.2
 have HQ := Aside0.mk (overE_eq o e run)
 obtain ⟨err, herr⟩ : ∃ err, err = overErr o run := ⟨_, rfl⟩
 rw [← herr] at HQ
 have HERR := Aside0.mk herr
 have h1' : (ownE o == 0) = true ∧ Aside0 (err = ownsE run) ∨ (ownE o == 0) = false ∧ Aside0 (err = ownE o) := by
  rw [herr]; unfold overErr
  by_cases c : ownE o = 0
  · exact .inl ⟨beq_iff_eq.mpr c, ⟨if_pos c⟩⟩
  · exact .inr ⟨beq_eq_false_iff_ne.mpr c, ⟨if_neg c⟩⟩
 clear h1 h2 h4 hG hfo hf herr
 obtain ⟨c1', HER⟩ | ⟨c1', HER⟩ := h1'
 all_goals
  go_enter Tryd.func42, Tryd.ntmps42
  go_wp2_with (first | ((with_reducible refine gate_box rfl ?_); refine ev_box S ?_; clear S; intro _ _ S) | ((with_reducible refine gate_new rfl ?_); refine ev_new S 41 zA ?_; clear S; intro _ _ S) | ((with_reducible refine gate_load rfl ?_); first | refine ev_load S ?_ | refine ev_fld S ?_) | ((with_reducible refine gate_st rfl ?_); refine ev_store S ?_; clear S; intro _ S) | (go_at_call 52; (with_reducible refine (own_any o _ _ (GW.below HG.out S.out.below) (HO.out.below S.out.below) HF.out.1).mono ?_); rintro e_ w7 ⟨rfl, hb⟩; replace S := Aside0.mk (S.out.step hb); clear hb) | (go_at_call 55; (with_reducible refine (owns_any run _ _ (GW.below HG.out S.out.below) (HR.out.below S.out.below) HF.out.2.1 HF.out.2.2).mono ?_); rintro e_ w7 ⟨rfl, hb⟩; replace S := Aside0.mk (S.out.step hb); clear hb) | (go_at_call 64; (with_reducible refine (clone_any o _ _ (HO.out.below S.out.below) HL.out).mono ?_); rintro e_ w7 ⟨v, rfl, hR, hb⟩; obtain ⟨Ao, co, rfl⟩ := hR.slice; replace S := Aside0.mk (S.out.addOp hb hR); clear hb hR))
  go_loopw [8, 21] (fun e' i' wr => ∃ (k : Nat) (s : S41 × Int) (As : Option Addr) (cs : Nat), k ≤ run.length ∧ i' = .int .i64 (k : Int) ∧ e' = .int .i64 s.2 ∧ Aside0 (OverAt err o e run w _ _ k s As cs wr)) (fun _ i' _ => run.length - (intOf i').toNat)
  case atStart => exact ⟨0, (o, err), Ao, co, Nat.zero_le _, rfl, by rw [HER.out], ⟨⟨rfl, S.out⟩⟩⟩
  case round =>
   obtain ⟨k, s, As, cs, hk, rfl, rfl, HA⟩ := hrel
   have S := Aside0.mk HA.out.st
   by_cases hlt : k < run.length
   · obtain ⟨ad, A5, c5, rfl, hat, hop⟩ := HE.out k hlt
     have hft := fold_take e run (o, err) k hlt
     have hm : run.getD k z41 ∈ run := by rw [List.getD_eq_getElem?_getD, List.getElem?_eq_getElem hlt]; exact List.getElem_mem hlt
     obtain ⟨x, hx⟩ : ∃ x, x = run.getD k z41 := ⟨_, rfl⟩
     rw [← hx] at hat hop hft hm
     have HAT := Aside0.mk hat
     have HOP := Aside0.mk hop
     have HFT := Aside0.mk hft
     have HMX := Aside0.mk hm
     clear hat hop hft hx hm
     by_cases h0 : s.2 = 0
     · have h0' : (s.2 != 0) = false := bne_eq_false_iff_eq.mpr h0
       have hgs := over_goods HERR.out HA.out.eq h0 HF.out.1 HF.out.2.1
       have HGS := Aside0.mk hgs.1
       have HGX := Aside0.mk (hgs.2 x HMX.out)
       have HEQ := Aside0.mk (show incE s.1 x e = (run.take (k + 1)).foldl (overF e) (o, err) by
        rw [HFT.out, ← HA.out.eq]; exact (if_pos h0).symm)
       clear h0 hgs
       go_wp2_with (first | ((with_reducible refine gate_new rfl ?_); refine ev_new S 41 zA ?_; clear S; intro _ _ S) | ((with_reducible refine gate_load rfl ?_); first | refine ev_load S ?_ | refine ev_fld S ?_) | ((with_reducible refine gate_st rfl ?_); refine ev_store S ?_; clear S; intro _ S) | ((with_reducible refine gate_load rfl ?_); refine ev_ext (opA x (.slice A5 x.f3.length c5)) (HAT.out _ S.out.below) ?_) | (go_at_call 56; (with_reducible refine (incE_prog s.1 x e _ _ _ (GW.below HG.out S.out.below) S.out.now.2.C (HOP.out.below S.out.below) HGS.out HGX.out).mono ?_); rintro e_ w7 ⟨v, rfl, hR, hb⟩; obtain ⟨Ai, ci, rfl⟩ := hR.slice; replace S := Aside0.mk (S.out.addOp hb hR); clear hb hR))
       go_roundw
       case rel => exact ⟨k + 1, incE s.1 x e, Ai, ci, by omega, by go_num, rfl, ⟨⟨HEQ.out, (S.out.drop (List.sublist_cons_self _ _)).weak fun _ h => ⟨trivial, h.2⟩⟩⟩⟩
       case measure => simp [intOf]; omega
     · have h0' : (s.2 != 0) = true := bne_iff_ne.mpr h0
       have HN := Aside0.mk (show overE o e run = (z41, s.2) by
        rw [HQ.out, over_end HA.out.eq (.inr h0), if_neg h0])
       clear h0
       go_wp2_with (first | ((with_reducible refine gate_new rfl ?_); refine ev_new S 41 zA ?_; clear S; intro _ _ S) | ((with_reducible refine gate_st rfl ?_); refine ev_store S ?_; clear S; intro _ S) | ((with_reducible refine gate_load rfl ?_); refine ev_ext (opA x (.slice A5 x.f3.length c5)) (HAT.out _ S.out.below) ?_))
       rw [HN.out]
       exact bodyPost_ret (results_ct rfl _ _ _ 41 zA (0, 0) _ rfl (S.out.at_ 1 rfl) Tryd.underlying41 rfl (by kernel_rfl)) rfl ⟨.slice none 0 0, rfl, opR_nil _ _, S.out.below⟩
   · have HN := Aside0.mk (show overE o e run = if s.2 = 0 then s else (z41, s.2) by
      rw [HQ.out, over_end HA.out.eq (.inl hlt)])
     by_cases h0 : s.2 = 0
     · have h0' : (s.2 != 0) = false := bne_eq_false_iff_eq.mpr h0
       have HM := Aside0.mk (show overE o e run = (s.1, 0) by rw [HN.out, if_pos h0, ← h0])
       clear h0
       go_wp2_with (first | ((with_reducible refine gate_load rfl ?_); first | refine ev_load S ?_ | refine ev_fld S ?_) | ((with_reducible refine gate_st rfl ?_); refine ev_store S ?_; clear S; intro _ S))
       rw [HM.out]
       exact bodyPost_ret (results_ct rfl _ _ _ 41 _ (0, 0) _ rfl (S.out.at_ 0 rfl) Tryd.underlying41 rfl (by kernel_rfl)) rfl ⟨_, rfl, S.out.now.2, S.out.below⟩
     · have h0' : (s.2 != 0) = true := bne_iff_ne.mpr h0
       have HM := Aside0.mk (show overE o e run = (z41, s.2) by rw [HN.out, if_neg h0])
       clear h0
       go_wp2_with (((with_reducible refine gate_st rfl ?_); refine ev_store S ?_; clear S; intro _ S))
       rw [HM.out]
       exact bodyPost_ret (results_ct rfl _ _ _ 41 zA (0, 0) _ rfl (S.out.at_ 0 rfl) Tryd.underlying41 rfl (by kernel_rfl)) rfl ⟨.slice none 0 0, rfl, opR_nil _ _, S.out.below⟩
end Go.Proofs.YtloccjkcmlkifaaDoor
end

section
/- The document's Over answers as the program's. -/
namespace Go.Proofs.YtloccjkcmlkifaaDoor
open Go.RowKit Go.Proofs.YtloccjkcmlkifaaDoor.PAll Go.Proofs.YtloccjkcmlkifaaDoorW.PrintWords Go.Proofs.YtloccjkcmlkifaaDoorW.PrintLast

section
variable {P : Program} {ops : Array Oper} {Q : Exit → Act → World → Prop} {md : Region.Mode} {S : World → Prop} {ds : List Nat} {fuel : Nat} {l : Array Bool} {a a' : Act} {w w0 : World} {oi : Oper} {N : Tmp} {rest : List Oper} {o : Oper} {W : World} {bs : List Bx} {F : World → Prop}
theorem le_ (i : Nat) (cs : Array Value) {ty : TypeId} {x : Operand} {d : TypeDesc} {ad : Addr} (hS : S w) (hcc : ∀ w', S w' → atL w' ad 0 cs.toList)
 (h : wpAnyLast P md ops Q S ds fuel (l.setIfInBounds i true) a' w)
 (hi : ops[i]? = some oi := by rfl) (hN : oi.dst = some N := by rfl) (hc : takeB md ops ds l (l.setIfInBounds i true) i = true := by kernel_rfl)
 (ho : oi.op = .load ty x := by rfl) (hx : a.eval x = .pointer (some ad) := by rfl)
 (hw : Region.wanted oi (yielded ops a.tmps) = true := by first | exact wanted_plain rfl | (refine wanted_on rfl ?_; simp [yielded]))
 (hu : P.underlying ty = some d := by first | exact Tryd.underlying41 | exact Tryd.underlying100) (hdd : (match d with | .struct _ | .array _ _ => true | _ => false) = true := by rfl) (hs : (P.info? ty).map (·.size) = some cs.size := by kernel_rfl)
 (ha : a.put (some N) (.agg cs) = a' := by (simp only [Act.put, List.setIfInBounds_toArray, List.set_cons_zero, List.set_cons_succ]; rfl))
 (hQ : ∀ c a w, Q (.panic c) (a.put oi.dst (.agg cs)) w → Q (.panic c) a w := by exact fun _ _ _ h => h) : wpAnyLast P md ops Q S ds (fuel + 1) l a w :=
 take_ (l.setIfInBounds i true) hi hN hc hQ (.inl ⟨hw, fun w' hS' => by
  have hr := run_load_wide (P := P) w' ad ty cs.toList d (hcc w' hS') hu hdd (by simpa using hs)
  unfold execOp
  simp only [ho, hx, Instr.loadAt, Instr.sureAddr, Sem.run_bind, Sem.run_pure, Result.andThen_ok, hr]⟩) hS ha h
theorem ev_lit (S : Aside0 (St w0 W bs F)) (cs : Array Value) (n : Nat) {ty : TypeId} {xs : Array (Nat × Operand)}
 (h : ∀ g w', Aside0 (St w0 w' ((g, 41, cs) :: bs) F) → wpList P ops Q rest (a.put (some N) (.slice (some ⟨g, 0, none⟩) n n)) w')
 (ho : o.op = .buildSlice ty n xs := by rfl) (hd : o.dst = some N := by rfl) (hw : Region.wanted o (yielded ops a.tmps) = true := by exact wanted_plain rfl)
 (hrun : (execOp a.eval o).run P W = .ok (.value (.slice (some ⟨W.heap.size, 0, none⟩) n n)) (W.alloc (.cells cs 41 (0, 0))) := by first | (go_simp; done) | (go_simp; rfl)) : wpList P ops Q (o :: rest) a W :=
 have _ := ho
 ev_run hw hrun (by rw [hd]; exact h _ _ ⟨S.out.push (below_alloc (Below.refl _ _) _) (blk_new W _) rfl⟩)
end
theorem opA_K {w : World} {v : Value} {o : S41} (h : OpC w v o) : k41.K w o (opA o v).toList := by
 obtain ⟨A, c, rfl, h1, h2⟩ := h
 exact k41_mk w o h1 h2
theorem runC_box1 {w : World} {g : Nat} {v : Value} {o : S41} (h : w.heap[g]? = some (.cells (opA o v) 41 (0, 0))) (ho : OpC w v o) : RunC w (.slice (some ⟨g, 0, none⟩) 1 1) [o] := by
 refine ⟨some ⟨g, 0, none⟩, 1, rfl, Nat.le_refl _, rfl, by simp, fun _ => ⟨_, rfl, fun j p hj => ?_⟩⟩
 match j, hj with
 | 0, hj =>
  obtain rfl := Option.some.inj hj
  refine ⟨_, rfl, opA_K ho, fun i u hu => ?_⟩
  rw [add_plain, blk_cell h, ← hu]
  simp [k41]
 | j + 1, hj => simp at hj
theorem runC_box2 {w : World} {g : Nat} {v u : Value} {o p : S41} (h : w.heap[g]? = some (.cells (opA o v ++ opA p u) 41 (0, 0))) (ho : OpC w v o) (hp : OpC w u p) : RunC w (.slice (some ⟨g, 0, none⟩) 2 2) [o, p] := by
 refine ⟨some ⟨g, 0, none⟩, 2, rfl, Nat.le_refl _, rfl, by simp, fun _ => ⟨_, rfl, fun j q hj => ?_⟩⟩
 match j, hj with
 | 0, hj =>
  obtain rfl := Option.some.inj hj
  refine ⟨_, rfl, opA_K ho, fun i x hx => ?_⟩
  have hi : i < 9 := (List.getElem?_eq_some_iff.1 hx).1
  rw [add_plain, blk_cell h, ← hx, Nat.zero_mul, Nat.zero_add, Array.getElem?_append_left (by simpa using hi)]
  simp
 | 1, hj =>
  obtain rfl := Option.some.inj hj
  refine ⟨_, rfl, opA_K hp, fun i x hx => ?_⟩
  have e : 1 * k41.sz = 9 := rfl
  rw [add_plain, blk_cell h, ← hx, e, Array.getElem?_append_right (by simp)]
  simp
 | j + 2, hj => simp at hj
theorem gate_lit {P : Program} {ops : Array Oper} {rest : List Oper} {o : Oper} {a : Act} {Q : Exit → Act → World → Prop} {W : World} {t : TypeId} {n : Nat} {xs : Array (Nat × Operand)} (_ho : o.op = .buildSlice t n xs) (h : wpList P ops Q (o :: rest) a W) : wpList P ops Q (o :: rest) a W := h
end Go.Proofs.YtloccjkcmlkifaaDoor
end

section
/- Two operations that are one are told equal: redraftref04.Equal, and what is made of it. -/
namespace Go.Proofs.YtloccjkcmlkifaaDoor
open Go.RowKit Go.Proofs.YtloccjkcmlkifaaDoor.PAll Go.Proofs.YtloccjkcmlkifaaDoorW.PrintWords Go.Proofs.YtloccjkcmlkifaaDoorW.PrintLast

def Yes (w : World) : Ending → World → Prop := fun e w' => e = .returned (.bool true) ∧ Below w.heap.size w w'
theorem same_loop (l : List S94) (hl : l.length ≤ 4611686018427387904) : ∀ (d k i : Nat), l.length = i + d → d + 1 ≤ k → redraftref04_Same.l0 k l l (i : Int) = some true := by
 intro d
 induction d with
 | zero =>
  intro k i h hk
  obtain ⟨k, rfl⟩ : ∃ m, k = m + 1 := ⟨k - 1, by omega⟩
  rw [redraftref04_Same.l0, if_neg (by omega)]
 | succ d ih =>
  intro k i h hk
  obtain ⟨k, rfl⟩ : ∃ m, k = m + 1 := ⟨k - 1, by omega⟩
  have q1 : (i : Int) < (l.length : Int) := by omega
  have q2 : (0 : Int) ≤ (i : Int) := by omega
  have w : wrap64 ((i : Int) + 1) = ((i + 1 : Nat) : Int) := by rw [wrap_id (by omega) (by omega)]; omega
  rw [redraftref04_Same.l0, if_pos q1, if_pos q2, if_pos q1, if_pos rfl, if_pos rfl, w]
  exact ih k (i + 1) (by omega) (by omega)
theorem same_any (o : S41) (v u : Value) (w : World) (hv : OpC w v o) (hu : OpC w u o) (hl : o.f3.length ≤ 4611686018427387904) :
 Calls Tryd.prog 76 #[v, u] w (Yes w) := by
 obtain ⟨A, c, rfl, h1, h2⟩ := hv
 obtain ⟨B, d, rfl, h3, h4⟩ := hu
 refine (redraftref04_Same.calls (o.f3.length + 1) A c o.f3 B d o.f3 true w h2 h1 h4 h3 ?_).mono fun e w2 h => ⟨h.1, h.2.below⟩
 unfold redraftref04_Same.f
 rw [if_pos rfl]
 exact same_loop o.f3 hl o.f3.length _ 0 (by omega) (Nat.le_refl _)
set_option maxRecDepth 100000 in
set_option maxHeartbeats 8000000 in
theorem equal_any (o : S41) (v u : Value) (w : World) (hv : OpC w v o) (hu : OpC w u o) (hl : o.f3.length ≤ 4611686018427387904) :
 Calls Tryd.prog 65 #[.agg (opA o v), .agg (opA o u)] w (Yes w) := by
 obtain ⟨A, c, rfl, h1, h2⟩ := hv
 obtain ⟨B, d, rfl, h3, h4⟩ := hu
 have S := Aside0.mk (St.init w (F := fun _ => True) (fun _ _ => trivial))
 have HV := Aside0.mk (opC_mk h1 h2); have HU := Aside0.mk (opC_mk h3 h4); have HL := Aside0.mk hl
 clear h1 h2 h3 h4 hl
 go_enter Tryd.func65, Tryd.ntmps65
 go_wp2_with (first | ((go_at_call 76; (with_reducible refine (same_any o _ _ _ (HV.out.below S.out.below) (HU.out.below S.out.below) HL.out).mono ?_); rintro e_ w7 ⟨rfl, hb⟩; replace S := Aside0.mk (S.out.step hb); clear hb); refine Hid.out ?_) | ((with_reducible refine gate_box rfl ?_); refine ev_box S ?_; clear S; intro _ _ S) | ((with_reducible refine gate_load rfl ?_); first | refine ev_load S ?_ | refine ev_fld S ?_) | (go_at_call 76; (with_reducible refine (same_any o _ _ _ (HV.out.below S.out.below) (HU.out.below S.out.below) HL.out).mono ?_); rintro e_ w7 ⟨rfl, hb⟩; replace S := Aside0.mk (S.out.step hb); clear hb))
 refine Lib.hid ?_
 dsimp only [List.append] at *
 go_wp2_with (first | ((with_reducible refine gate_box rfl ?_); refine ev_box S ?_; clear S; intro _ _ S) | ((with_reducible refine gate_load rfl ?_); first | refine ev_load S ?_ | refine ev_fld S ?_) | (go_at_call 76; (with_reducible refine (same_any o _ _ _ (HV.out.below S.out.below) (HU.out.below S.out.below) HL.out).mono ?_); rintro e_ w7 ⟨rfl, hb⟩; replace S := Aside0.mk (S.out.step hb); clear hb))
 go_ret
 exact ⟨rfl, S.out.below⟩
set_option maxRecDepth 100000 in
theorem sameOp_any (o : S41) (v u : Value) (w : World) (hv : OpC w v o) (hu : OpC w u o) (hl : o.f3.length ≤ 4611686018427387904) :
 Calls Tryd.prog 43 #[.agg (opA o v), .agg (opA o u)] w (Yes w) := by
 have S := Aside0.mk (St.init w (F := fun _ => True) (fun _ _ => trivial))
 have HV := Aside0.mk hv; have HU := Aside0.mk hu; have HL := Aside0.mk hl
 clear hv hu hl
 go_enter Tryd.func43, Tryd.ntmps43
 go_wp2_with (first | ((with_reducible refine gate_box rfl ?_); refine ev_box S ?_; clear S; intro _ _ S) | ((with_reducible refine gate_load rfl ?_); refine ev_load S ?_) | (go_at_call 65; (with_reducible refine (equal_any o _ _ _ (HV.out.below S.out.below) (HU.out.below S.out.below) HL.out).mono ?_); rintro e_ w7 ⟨rfl, hb⟩; replace S := Aside0.mk (S.out.step hb); clear hb))
 go_ret
 exact ⟨rfl, S.out.below⟩
theorem num_any (e : Int) (w : World) : Calls Tryd.prog 23 #[.int .i64 e] w fun e' w' => e' = .returned (.int .i64 e) ∧ Below w.heap.size w w' := by
 go_enter Tryd.func23, Tryd.ntmps23
 go_wp2
 go_ret
 exact ⟨rfl, Below.refl _ _⟩
end Go.Proofs.YtloccjkcmlkifaaDoor
end

section
/- A script's step as a value; what the laws ask of two answers that are one. -/
namespace Go.Proofs.YtloccjkcmlkifaaDoor
open Go.RowKit Go.Proofs.YtloccjkcmlkifaaDoor.PAll Go.Proofs.YtloccjkcmlkifaaDoorW.PrintWords Go.Proofs.YtloccjkcmlkifaaDoorW.PrintLast

structure StepC (w : World) (va vb vr vo : Value) (s : S100) : Prop where
 a : OpC w va s.f1
 b : OpC w vb s.f2
 r : RunC w vr s.f3
 o : RunC w vo s.f4
theorem StepC.below {w w' : World} {va vb vr vo : Value} {s : S100} (h : StepC w va vb vr vo s) (hb : Below w.heap.size w w') : StepC w' va vb vr vo s := ⟨h.a.below hb, h.b.below hb, h.r.below hb, h.o.below hb⟩
theorem atL_sub {w : World} {g : Nat} {t : TypeId} {cs : Array Value} (h : w.heap[g]? = some (.cells cs t (0, 0))) (j : Nat) (sub : List Value) (hs : sub = (cs.toList.drop j).take sub.length) : atL w ⟨g, j, none⟩ 0 sub :=
 atL_mk fun i v hv => by
  have hadd : (⟨g, j, none⟩ : Addr).add (0 + i) = ⟨g, j + i, none⟩ := by
   rw [Nat.zero_add]; unfold Addr.add
   by_cases hi0 : i = 0
   · rw [if_pos hi0, hi0, Nat.add_zero]
   · rw [if_neg hi0]
  rw [hadd, blk_cell h]
  rw [hs] at hv
  have hi : i < sub.length := by
   have := (List.getElem?_eq_some_iff.1 hv).1
   simp at this; omega
  rw [List.getElem?_take_of_lt hi, List.getElem?_drop] at hv
  simpa using hv
section
variable {P : Program} {ops : Array Oper} {rest : List Oper} {o : Oper} {a a' : Act} {Q : Exit → Act → World → Prop} {w0 W w : World} {bs : List Bx} {F : World → Prop} {g : Nat} {t : TypeId} {cs : Array Value}
variable {md : Region.Mode} {S : World → Prop} {ds : List Nat} {fuel : Nat} {l : Array Bool} {oi : Oper} {N : Tmp}
end
theorem foot_S {α : Type} {d : Kd α} {e : Nat} {w : World} {base : Nat} {v : Value} {xs : List α} (h : Kd.S d e w base (fun _ => True) v xs) : Foot (fun W => Kd.S d e W base (fun _ => True) v xs) w (fun k => base ≤ k) := by
 obtain ⟨f, h⟩ := h
 exact fun W' hW => ⟨f, foot_R h W' hW⟩
theorem St.addS {α : Type} {d : Kd α} {e : Nat} {w0 w w' : World} {bs : List Bx} {F : World → Prop} {v : Value} {xs : List α} (S : St w0 w bs F) (hb : Below w.heap.size w w') (h : Kd.S d e w' w.heap.size (fun _ => True) v xs) : St w0 w' bs (fun W => F W ∧ Kd.S d e W w0.heap.size (fun _ => True) v xs) :=
 S.add hb fun W' hW => Kd.S_lower (foot_S h W' hW) S.below.size
def OwnRun (w : World) (base : Nat) (v : Value) (l : List S41) : Prop := Kd.S k41 41 w base (fun _ => True) v l
theorem OwnRun.C {w : World} {base : Nat} {v : Value} {l : List S41} (h : OwnRun w base v l) : RunC w v l := Kd.S_reads h
theorem copyRun_loop (l : List S41) (hf : ∀ o ∈ l, fineOp o) (hl : l.length ≤ 1048576) : ∀ (d k i : Nat), l.length = i + d → d + 1 ≤ k → redraftref05_CopyRun.l0 k l (l.take i) (i : Int) = some l := by
 intro d
 induction d with
 | zero =>
  intro k i h hk
  obtain ⟨k, rfl⟩ : ∃ m, k = m + 1 := ⟨k - 1, by omega⟩
  rw [redraftref05_CopyRun.l0, if_neg (by omega), List.take_of_length_le (by omega)]
 | succ d ih =>
  intro k i h hk
  obtain ⟨k, rfl⟩ : ∃ m, k = m + 1 := ⟨k - 1, by omega⟩
  have hi : i < l.length := by omega
  have q1 : (i : Int) < (l.length : Int) := by omega
  have q2 : (0 : Int) ≤ (i : Int) := by omega
  have q3 : (l.take i).length < 1466015503701 := by simp; omega
  have w : wrap64 ((i : Int) + 1) = ((i + 1 : Nat) : Int) := by rw [wrap_id (by omega) (by omega)]; omega
  obtain ⟨o, ho⟩ : ∃ o, o = l[i] := ⟨_, rfl⟩
  have e : rd_T41 l (i : Int) = o := by unfold rd_T41; rw [Int.toNat_natCast, List.getD_eq_getElem?_getD, List.getElem?_eq_getElem hi, ho]; rfl
  have hfo := hf o (by rw [ho]; exact List.getElem_mem hi)
  rw [redraftref05_CopyRun.l0, if_pos q1, if_pos q2, e, copy_is o hfo]
  simp only [Option.bind_some]
  rw [if_pos q3, w]
  have := ih k (i + 1) (by omega) (by omega)
  rw [List.take_succ_eq_append_getElem hi, ← ho] at this
  exact this
theorem copyRun_any (l : List S41) (v : Value) (w : World) (h : RunC w v l) (hf : ∀ o ∈ l, fineOp o) (hl : l.length ≤ 1048576) :
 Calls Tryd.prog 36 #[v] w fun e w' => ∃ u, e = .returned u ∧ OwnRun w' w.heap.size u l ∧ Below w.heap.size w w' := by
 obtain ⟨A, c, rfl, h1, h2⟩ := h
 have := copyRun_loop l hf hl l.length (l.length + 1) 0 (by omega) (by omega)
 exact redraftref05_CopyRun.calls (l.length + 1) A c l l w h2 h1 (by unfold redraftref05_CopyRun.f; exact this)
end Go.Proofs.YtloccjkcmlkifaaDoor
end

section
/- The operations of specs, each made behind those ahead of it: run. -/
namespace Go.Proofs.YtloccjkcmlkifaaDoor
open Go.RowKit Go.Proofs.YtloccjkcmlkifaaDoor.PAll Go.Proofs.YtloccjkcmlkifaaDoorW.PrintWords Go.Proofs.YtloccjkcmlkifaaDoorW.PrintLast

def SpecsC (w : World) (v : Value) (n : Nat) : Prop := ∃ A c, v = .slice A n c ∧ n ≤ c ∧ ∀ i, i < n → ∃ ad kd at_ m P cp, ∃ (l : List Int) (on : Bool), A = some ad ∧
 (∀ W, Below w.heap.size w W → atL W (ad.add (i * 5)) 0 [.int .i64 kd, .int .i64 at_, .int .i64 m, .slice P l.length cp, .bool on]) ∧ l.length ≤ cp ∧ Kd.C (Kd.int .i64) w P l.length l
inductive MadeRun (ci : Int) (n0 : Nat) : List S41 → Nat → Prop
 | nil : MadeRun ci n0 [] n0
 | snoc {l : List S41} {n : Nat} {o : S41} : MadeRun ci n0 l n → MadeOK o ci ((l.length : Int) + 1) n → MadeRun ci n0 (l ++ [o]) (n + (wid o).toNat)
theorem MadeRun.bound {ci : Int} {n0 : Nat} {l : List S41} {n : Nat} (h : MadeRun ci n0 l n) : n0 ≤ n ∧ n ≤ n0 + 5 * l.length := by
 induction h with
 | nil => simp
 | snoc _ ho ih =>
  have := ho.stands.wid
  rw [List.length_append, List.length_singleton]
  omega
set_option maxRecDepth 100000 in
set_option maxHeartbeats 4000000 in
theorem run_any (ci : Int) (n0 sn : Nat) (vs : Value) (w : World) (hT : GT w) (hs : SpecsC w vs sn) (hn : n0 ≤ 900) (hsn : sn ≤ 281474976710656) :
 Calls Tryd.prog 20 #[vs, .int .i64 ci, .int .i64 n0] w fun e w' => ∃ u l n, e = .returned u ∧ MadeRun ci n0 l n ∧ l.length ≤ 12 ∧ OwnRun w' w.heap.size u l ∧ Below w.heap.size w w' := by
 obtain ⟨A, c, rfl, h1, h2⟩ := hs
 have HT := Aside0.mk hT; have HE := Aside0.mk h2
 clear hT h2
 go_enter Tryd.func20, Tryd.ntmps20
 go_wp2_with (fail)
 go_loopw [2, 7, 8] (fun t' u' i' wr => ∃ (k tot : Nat) (acc : List S41), k ≤ 12 ∧ k ≤ sn ∧ i' = .int .i64 (k : Int) ∧ t' = .int .i64 (tot : Int) ∧ acc.length = k ∧ Aside0 (MadeRun ci n0 acc tot) ∧ Aside0 (Kd.S k41 41 wr w.heap.size (fun _ => True) u' acc) ∧ Aside0 (Below w.heap.size w wr)) (fun _ _ i' _ => 12 - (intOf i').toNat)
 case atStart => exact ⟨0, n0, [], by omega, by omega, rfl, rfl, rfl, ⟨.nil⟩, ⟨Kd.S_nil _ _ _ _ _⟩, ⟨Below.refl _ _⟩⟩
 case round =>
  obtain ⟨k, tot, acc, hk, hks, rfl, rfl, hl, HM, HS, HB⟩ := hrel
  have HL := Aside0.mk hl
  have HTB := Aside0.mk (show tot ≤ 1000 by have := HM.out.bound; omega)
  clear hl
  by_cases hlt : k < sn
  · by_cases c12 : k < 12
    · obtain ⟨ad, kd, at_, m, P, cp, l, on, rfl, hat, hpl, hpc⟩ := HE.out k hlt
      have HAT := Aside0.mk hat; have HPL := Aside0.mk hpl; have HPC := Aside0.mk hpc
      have c12' : decide ((k : Int) < 12) = true := decide_eq_true (by omega)
      clear hat hpl hpc
      go_wp2_with (first | ((with_reducible refine gate_load rfl ?_); refine ev_ext #[.int .i64 kd, .int .i64 at_, .int .i64 m, .slice P l.length cp, .bool on] (HAT.out _ HB.out) ?_ (hu := Tryd.underlying57)) | (go_at_call 29; (with_reducible refine (made_in _ _ _ _ _ _ _ _ _ tot _ (GT.below HT.out HB.out) (Kd.C_below HPC.out HB.out) HPL.out HTB.out).mono ?_); rintro e_ w7 ⟨o, v, rfl, hOK, hR, hb⟩; obtain ⟨Ao, co, rfl⟩ := hR.slice; have HS2 := Aside0.mk (Kd.S_elder' HS.out (Kd.R_base hR) hb); have HO2 : Aside0 (OpR w7 w.heap.size (.slice Ao o.f3.length co) o) := ⟨Kd.R_lower hR (below_size HB.out)⟩; replace HB := Aside0.mk (below_then HB.out (below_size HB.out) hb); have S := Aside0.mk (St.init w7 (F := fun _ => True) (fun _ _ => trivial)); have HOK := Aside0.mk hOK; have hq : IntKind.i64.wrap ((tot : Int) + wid o) = (tot : Int) + wid o := IntWalk.i64_in _ (by have := hOK.stands.wid; have := HTB.out; omega); clear hb hR hOK) | ((with_reducible refine gate_new rfl ?_); refine ev_new S 41 zA ?_; clear S; intro _ _ S) | ((with_reducible refine gate_load rfl ?_); refine ev_load S ?_) | ((with_reducible refine gate_st rfl ?_); refine ev_store S ?_; clear S; intro _ S) | (go_at_call 28; (with_reducible refine (lwid_any HOK.out.stands _ _ (HO2.out.C.below S.out.below)).mono ?_); rintro e_ w7 ⟨rfl, hb⟩; replace S := Aside0.mk (S.out.step hb); clear hb) | ((with_reducible refine gate_builtin (b := .append) (xs := #[.tmp 34, .tmp 36]) rfl ?_); at_builtin; refine Kd.S_append k41 (w0 := w) w.heap.size rfl (.tmp 34) (.tmp 36) 29 41 (.agg zA) 96 rfl Tryd.underlying29 info41 rfl (by decide) (by omega) u7 acc o (opA o (.slice Ao o.f3.length co)).toList (fun _ => True) (fun k_ => some k_ = (.slice Ao o.f3.length co : Value).ownBlock) rfl rfl ?aP ?aK (fun _ _ => trivial) ?aO ?aB ?aS ?aL ?_; (case aP => exact k41_mkM _ _ _ o (Kd.R_mono (Kd.R_tight rfl (Kd.R_below HO2.out S.out.below)) (fun _ h_ => h_))); (case aK => exact fun k_ hk_ => (Kd.R_mono (ok' := fun k_ => True ∧ some k_ ≠ (u7 : Value).ownBlock) (Kd.R_apart' (Kd.R_below HO2.out S.out.below) (Kd.S_typed (Kd.S_below HS2.out S.out.below)) (by decide)) (fun k_ hk => ⟨trivial, hk.2⟩)).1 k_ hk_.symm); (case aO => exact Kd.S_mono (Kd.S_below HS2.out S.out.below) (fun k_ hk => ⟨trivial, fun e_ => hk.2 e_⟩)); (case aB => exact below_then HB.out (below_size HB.out) S.out.below); (case aS => exact Nat.le_trans (below_size HB.out) (below_size S.out.below)); (case aL => have := HL.out; omega); intro v_ w9 ho hb _ _; have HS3 := Aside0.mk ho; have HB3 := Aside0.mk hb; clear ho hb))
      go_roundw
      case rel => exact ⟨k + 1, tot + (wid o).toNat, acc ++ [o], by omega, by omega, by go_num, by have := HOK.out.stands.wid; rw [show ((tot + (wid o).toNat : Nat) : Int) = (tot : Int) + wid o by omega], by rw [List.length_append, HL.out]; rfl, ⟨.snoc HM.out (by rw [HL.out]; exact HOK.out)⟩, HS3, HB3⟩
      case measure => simp [intOf]; omega
    · have c12' : decide ((k : Int) < 12) = false := decide_eq_false (by omega)
      go_wp2_with (fail)
      go_ret
      exact ⟨_, acc, tot, rfl, HM.out, by rw [HL.out]; omega, HS.out, HB.out⟩
  · go_wp2_with (fail)
    go_ret
    exact ⟨_, acc, tot, rfl, HM.out, by rw [HL.out]; omega, HS.out, HB.out⟩
end Go.Proofs.YtloccjkcmlkifaaDoor
end

section
/- What the outright laws are handed: two tables that lie where they lie; a context, lists of specs. -/
namespace Go.Proofs.YtloccjkcmlkifaaDoor
open Go.ChangeShapes Go.WideShapes Go.ChangeAt Go.RowKit Go.Proofs.YtloccjkcmlkifaaDoorW.PrintWords Go.Proofs.YtloccjkcmlkifaaDoor.PAll

theorem bars_of_vars {W : World} {rest : List (String × DataW Unit)} {ps : List MemPlace} (h : DataW.LaidVars Tryd.prog W (("redraft/utext.bars", Rows.laid_redraft_utext_bars) :: rest) ps) : GW W := by
 obtain ⟨g, t, cs, fuel, p, q, hg, ht, hvar, hd, _, _⟩ := h
 obtain rfl : 1 = g := Option.some.inj ((show Tryd.prog.globalNamed "redraft/utext.bars" = some 1 by kernel_rfl).symm.trans hg)
 obtain rfl : 144 = t := Option.some.inj ((show (Tryd.prog.globals[1]?).map (·.type) = some 144 by kernel_rfl).symm.trans ht)
 have hs := bars_shape (zs := barsL) Tryd.underlying144 Tryd.underlying143 Tryd.underlying21 Tryd.underlying21 rfl rfl (by kernel_rfl) (by kernel_rfl) (by kernel_rfl) rfl hd
 have hc : ∀ o, W.cell? ⟨1, o, none⟩ = cs[o]? := fun o => World.var?_cell hg hvar o
 have hcell : ∀ j, j < 5 → W.cell? ⟨1, j * 2, none⟩ = some (.int .i32 (barsL.getD j (0, 0)).1) ∧ W.cell? ⟨1, j * 2 + 1, none⟩ = some (.int .i32 (barsL.getD j (0, 0)).2) := fun j hj => by
  obtain ⟨e0, e1⟩ := hs j hj
  rw [hc, hc, ← Array.getElem?_toList, ← Array.getElem?_toList]
  exact ⟨e0, e1⟩
 exact ⟨World.block_lt_of_cell? W ⟨1, 0, none⟩ (hcell 0 (by decide)).1, hcell⟩
theorem texts_shape {P : Program} {w : World} {fuel : Nat} {t e : TypeId} {n : Nat} {cs : List Value} {zs : List (List UInt8)} {p : List MemPlace}
 (ht : P.underlying t = some (.array n e)) (he : P.underlying e = some .string) (ce : P.cellsOf e = 1) (hn : n = zs.length)
 (h : DataW.trod (fun _ => ()) P w 0 (fun _ => true) false fuel t cs = some (.agg (zs.map fun z => .lit (.string z)), p)) :
 ∀ j, j < n → ∃ s : ByteArray, cs[j]? = some (.string s) ∧ s.data.toList = zs.getD j [] := by
 obtain ⟨xs, m, _, hx, hl, hlen, hf⟩ := DataW.trod_array ht h
 simp only [Prod.mk.injEq, DataW.agg.injEq] at hx
 intro j hj
 have hj2 : j < xs.length := by omega
 have h1 := hf j hj
 rw [List.getElem?_eq_getElem hj2, ce, Nat.mul_one] at h1
 obtain ⟨s, hs, hy, _⟩ := DataW.trod_string he h1
 have hz : (xs.map (·.1))[j]? = (zs.map fun z => (DataW.lit (.string z) : DataW Unit))[j]? := by rw [hx.1]
 rw [List.getElem?_map, List.getElem?_map, List.getElem?_eq_getElem hj2, List.getElem?_eq_getElem (by omega : j < zs.length)] at hz
 simp only [Option.map_some, Option.some.injEq] at hz
 rw [hy] at hz
 simp only [DataW.lit.injEq, Lit.string.injEq] at hz
 refine ⟨s, ?_, by rw [List.getD_eq_getElem?_getD, List.getElem?_eq_getElem (by omega : j < zs.length)]; exact hz⟩
 have : ((cs.drop j).take 1)[0]? = some (.string s) := by rw [hs]; rfl
 rw [List.getElem?_take_of_lt (by omega), List.getElem?_drop] at this
 simpa using this
theorem bytes_eq {s t : ByteArray} (h : s.data.toList = t.data.toList) : s = t := by
 cases s; cases t
 simp only [ByteArray.mk.injEq]
 exact Array.toList_inj.1 h
theorem tabs_of {W : World} (h : laidMetH Tryd.prog [("redraft/utext.bars", Rows.laid_redraft_utext_bars), ("redraft/redraftlaw05.texts", Rows.laid_redraft_redraftlaw05_texts)] W) : GW W ∧ GT W := by
 have h' : laidMet Tryd.prog [("redraft/utext.bars", Rows.laid_redraft_utext_bars), ("redraft/redraftlaw05.texts", Rows.laid_redraft_redraftlaw05_texts)] W := h
 obtain ⟨ps, hv, _⟩ := h'
 refine ⟨bars_of_vars hv, ?_⟩
 obtain ⟨_, _, _, _, _, q, _, _, _, _, h2, _⟩ := hv
 obtain ⟨g, t, cs, fuel, p, q2, hg, ht, hvar, hd, _, _⟩ := h2
 obtain rfl : 0 = g := Option.some.inj ((show Tryd.prog.globalNamed "redraft/redraftlaw05.texts" = some 0 by kernel_rfl).symm.trans hg)
 obtain rfl : 50 = t := Option.some.inj ((show (Tryd.prog.globals[0]?).map (·.type) = some 50 by kernel_rfl).symm.trans ht)
 have hs := texts_shape (zs := txL.map (·.data.toList)) Tryd.underlying50 Tryd.underlying9 (by kernel_rfl) rfl hd
 have hcell : ∀ j, j < 5 → W.cell? ⟨0, j, none⟩ = some (.string (tx j)) := fun j hj => by
  obtain ⟨s, e0, e1⟩ := hs j hj
  rw [World.var?_cell hg hvar j, ← Array.getElem?_toList, e0]
  congr 2
  refine bytes_eq (e1.trans ?_)
  match j, hj with
  | 0, _ => rfl
  | 1, _ => rfl
  | 2, _ => rfl
  | 3, _ => rfl
  | 4, _ => rfl
 exact ⟨World.block_lt_of_cell? W ⟨0, 0, none⟩ (hcell 0 (by decide)), hcell⟩
noncomputable def tabWorld (os : Os) : World :=
 let w0 := laidWorld os
 { w0 with heap := w0.heap.modify 0 fun
  | .cells _ t frozen => .cells #[.string ⟨#[97]⟩, .string ⟨#[97, 195, 169]⟩, .string ⟨#[226, 130, 172, 97, 195, 169]⟩, .string ⟨#[122, 195, 169, 240, 159, 152, 128, 97]⟩, .string ⟨#[97, 98, 99, 100, 101]⟩] t frozen
  | o => o }
section
variable {H : Type} {enc : TypeId × Value → H} {w : World} {cs : List Value}
theorem red_row {P : Program} {t : TypeId} {α : Type} {e : TypeId} (d : Kd α) (z : α) (ht : P.underlying t = some (.slice e)) (hc : P.cellsOf e = d.sz) (hpos : 0 < d.sz) (hby : 0 < P.bytesOf e) (he : ∀ cs', Red enc P w e cs' → ∃ x, d.K w x cs') (h : Red enc P w t cs) :
 ∃ (A : Option Addr) (c : Nat) (l : List α), cs = [.slice A l.length c] ∧ l.length ≤ c ∧ d.C w A l.length l := by
 obtain ⟨A, n, c, rfl, h1, h2, h3, h4, h5⟩ := red_slice ht (by omega) h
 rw [hc] at h5
 have hcb : c ≤ 140737488351232 := Nat.le_trans (Nat.le_mul_of_pos_right c hby) h2
 have hf2 : ∀ i, ∃ x : α, i < n → (∃ b o, A = some ⟨b, o, none⟩ ∧ ∃ cs', cs'.length = d.sz ∧ (∀ j, j < d.sz → w.cell? ⟨b, o + (i * d.sz + j), none⟩ = cs'[j]?) ∧ d.K w x cs') := by
  intro i
  by_cases hi : i < n
  · obtain ⟨b, o, hA, hb⟩ := h3 (by omega)
    obtain ⟨cs', hl, hcell, hr⟩ := h5 b o hA i (by omega)
    obtain ⟨x, hx⟩ := he cs' hr
    exact ⟨x, fun _ => ⟨b, o, hA, cs', hl, hcell, hx⟩⟩
  · exact ⟨z, fun h => absurd h hi⟩
 obtain ⟨f, hf3⟩ := Classical.axiomOfChoice hf2
 refine ⟨A, c, (List.range n).map f, by simp, by simpa using h1, ?_⟩
 refine ⟨by simp, by simp; omega, fun hn => ?_⟩
 have hn' : 0 < n := by simpa using hn
 obtain ⟨b, o, hA, hb⟩ := h3 (by omega)
 refine ⟨⟨b, o, none⟩, hA, fun j p hp => ?_⟩
 obtain ⟨hj, rfl⟩ := List.getElem?_eq_some_iff.1 hp
 have hj' : j < n := by simpa using hj
 obtain ⟨b', o', hA', cs', hl, hcell, hK⟩ := hf3 j hj'
 rw [hA] at hA'
 cases hA'
 refine ⟨cs', hl, by simpa using hK, fun i u hu => ?_⟩
 have hi : i < d.sz := by rw [← hl]; exact (List.getElem?_eq_some_iff.1 hu).1
 have e : (⟨b, o, none⟩ : Addr).add (j * d.sz + i) = ⟨b, o + (j * d.sz + i), none⟩ := by
  unfold Addr.add
  split
  · rename_i h0; rw [h0, Nat.add_zero]
  · rfl
 rw [e, hcell i hi, hu]
theorem d3 : Tryd.prog.cellsOf 3 = 1 := by kernel_rfl
theorem d4 : Tryd.prog.cellsOf 4 = 1 := by kernel_rfl
theorem d22 : Tryd.prog.cellsOf 22 = 1 := by kernel_rfl
theorem d23 : Tryd.prog.cellsOf 23 = 1 := by kernel_rfl
theorem d25 : Tryd.prog.cellsOf 25 = 7 := by kernel_rfl
theorem d57 : Tryd.prog.cellsOf 57 = 5 := by kernel_rfl
theorem red_ints (h : Red enc Tryd.prog w 23 cs) : ∃ (A : Option Addr) (c : Nat) (l : List Int), cs = [.slice A l.length c] ∧ l.length ≤ c ∧ Kd.C (Kd.int .i64) w A l.length l :=
 red_row (Kd.int .i64) 0 Tryd.underlying23 d3 (by decide) (of_decide_eq_true (by kernel_rfl)) (fun cs' h => by
  obtain ⟨x, rfl, _⟩ := red_int Tryd.underlying3 h
  exact ⟨x, rfl⟩) h
set_option maxRecDepth 100000 in
theorem red_spec (h : Red enc Tryd.prog w 57 cs) : ∃ kd at_ m P cp, ∃ (l : List Int) (on : Bool), cs = [.int .i64 kd, .int .i64 at_, .int .i64 m, .slice P l.length cp, .bool on] ∧ l.length ≤ cp ∧ Kd.C (Kd.int .i64) w P l.length l := by
 obtain ⟨hl, hr⟩ := red_struct Tryd.underlying57 h
 rw [d57] at hl
 match cs, hl with
 | [x0, x1, x2, x3, x4], _ =>
  obtain ⟨n0, e0, _⟩ := red_int Tryd.underlying3 (hr 0 _ rfl)
  obtain ⟨n1, e1, _⟩ := red_int Tryd.underlying3 (hr 1 _ rfl)
  obtain ⟨n2, e2, _⟩ := red_int Tryd.underlying3 (hr 2 _ rfl)
  obtain ⟨A, c, l, e3, h1, h2⟩ := red_ints (hr 3 _ rfl)
  obtain ⟨b, e4⟩ := red_bool Tryd.underlying4 (hr 4 _ rfl)
  simp [d3, d23, d4] at e0 e1 e2 e3 e4
  subst e0 e1 e2 e3 e4
  exact ⟨n0, n1, n2, A, c, l, b, rfl, h1, h2⟩
theorem red_specs (h : Red enc Tryd.prog w 22 cs) : ∃ A n c, cs = [.slice A n c] ∧ SpecsC w (.slice A n c) n ∧ n ≤ 281474976710656 := by
 obtain ⟨A, n, c, rfl, h1, h2, h3, h4, h5⟩ := red_slice Tryd.underlying22 (by rw [d57]; decide) h
 rw [d57] at h5
 have hcb : c ≤ 140737488351232 := Nat.le_trans (Nat.le_mul_of_pos_right c (of_decide_eq_true (by kernel_rfl))) h2
 refine ⟨A, n, c, rfl, ⟨A, c, rfl, h1, fun i hi => ?_⟩, by omega⟩
 obtain ⟨b, o, hA, hb⟩ := h3 (by omega)
 obtain ⟨cs', hl, hcell, hr⟩ := h5 b o hA i (by omega)
 obtain ⟨kd, at_, m, P, cp, l, on, rfl, h6, h7⟩ := red_spec hr
 refine ⟨⟨b, o, none⟩, kd, at_, m, P, cp, l, on, hA, fun W hW => atL_mk fun j v hj => ?_, h6, h7⟩
 have hj5 : j < 5 := (List.getElem?_eq_some_iff.1 hj).1
 have hc := hcell j hj5
 rw [hj] at hc
 have e : ((⟨b, o, none⟩ : Addr).add (i * 5)).add (0 + j) = ⟨b, o + (i * 5 + j), none⟩ := by
  unfold Addr.add
  by_cases hi0 : i * 5 = 0 <;> by_cases hj0 : j = 0 <;> simp [hi0, hj0, Nat.add_assoc]
  all_goals (try (have : i = 0 := by omega); try subst this; simp)
 rw [e]
 exact pw_cell_below hW hc
set_option maxRecDepth 100000 in
theorem red_two (h : Red enc Tryd.prog w 25 cs) : ∃ len A n c B m d i j, ∃ (e : Bool) (v : Value), cs = [.int .i64 len, .slice A n c, .slice B m d, .int .i64 i, .int .i64 j, .bool e, v] ∧ SpecsC w (.slice A n c) n ∧ n ≤ 281474976710656 ∧ SpecsC w (.slice B m d) m ∧ m ≤ 281474976710656 ∧ (Lit.int .i64 i).wf = true ∧ (Lit.int .i64 j).wf = true := by
 obtain ⟨hl, hr⟩ := red_struct Tryd.underlying25 h
 rw [d25] at hl
 match cs, hl with
 | [x0, x1, x2, x3, x4, x5, x6], _ =>
  obtain ⟨n0, e0, _⟩ := red_int Tryd.underlying3 (hr 0 _ rfl)
  obtain ⟨A, n, c, e1, h1, h2⟩ := red_specs (hr 1 _ rfl)
  obtain ⟨B, m, d, e2, h3, h4⟩ := red_specs (hr 2 _ rfl)
  obtain ⟨n3, e3, w3⟩ := red_int Tryd.underlying3 (hr 3 _ rfl)
  obtain ⟨n4, e4, w4⟩ := red_int Tryd.underlying3 (hr 4 _ rfl)
  obtain ⟨b, e5⟩ := red_bool Tryd.underlying4 (hr 5 _ rfl)
  simp [d3, d22, d4] at e0 e1 e2 e3 e4 e5
  subst e0 e1 e2 e3 e4 e5
  exact ⟨n0, A, n, c, B, m, d, n3, n4, b, x6, rfl, h1, h2, h3, h4, w3, w4⟩
end
end Go.Proofs.YtloccjkcmlkifaaDoor
end

section
/- A gap behind a cell stays behind that cell: plain lists. -/
namespace Go.Proofs.YtloccjkcmlkifaaDoor
open Go.RowKit Go.Proofs.YtloccjkcmlkifaaDoor.PAll Go.Proofs.YtloccjkcmlkifaaDoorW.PrintWords

theorem made_good {o : S41} {c m : Int} {n : Nat} (h : MadeOK o c m n) (hn : n ≤ 1000) (hc : 1 ≤ c ∧ c ≤ 2) (hm : 1 ≤ m ∧ m ≤ 1024) : Good o := by
 have hid : ¬ badID o := by
  unfold badID
  rw [h.id]
  rintro ⟨_, h2⟩
  unfold isID at h2
  have := of_decide_eq_false h2
  simp only at this
  omega
 have hk := h.stands.kind
 have hex : extraB o = false := by
  unfold extraB
  refine decide_eq_false fun q => ?_
  rcases (by omega : o.f0.f1 = 1 ∨ (o.f0.f1 = 2 ∨ o.f0.f1 = 3) ∨ o.f0.f1 = 4) with k | k | k
  · obtain ⟨h3, h4, h5⟩ := h.ins k
    rw [h3, h4, h5, k] at q
    simp at q
  · obtain ⟨h1, h2, h4, h5⟩ := h.cov k
    rw [h1, h2, h4, h5] at q
    rcases q with q | q | q
    · exact absurd q.2 (by simp)
    · exact absurd k (by omega)
    · simp at q
  · obtain ⟨h1, h2, h3, _⟩ := h.sta k
    rw [h1, h2, h3, k] at q
    simp at q
 rcases (by omega : o.f0.f1 = 1 ∨ (o.f0.f1 = 2 ∨ o.f0.f1 = 3) ∨ o.f0.f1 = 4) with k | k | k
 · obtain ⟨p1, p2, j, hj, e⟩ := h.stands.ins k
   obtain ⟨q1, q2, q3⟩ := tx_chk j hj
   rw [← e] at q1 q2 q3
   exact ⟨own_mk_ins k hid hex q2 (by omega) (by omega), by omega, by rw [(h.ins k).1]; simp⟩
 · obtain ⟨h1, h2, h3⟩ := h.stands.cov k
   have h4 := nrm_len h2 (by omega) h1
   refine ⟨own_mk_cov k hid hex h1 (by rw [ok_rng (by omega) h2]) (by omega), by rw [(h.cov k).2.1]; decide, by omega⟩
 · obtain ⟨h1, h2, h3, h4, h5, h6⟩ := h.sta k
   refine ⟨?_, by rw [h2]; decide, by rw [h3]; decide⟩
   have ht : totOf o = 1048576 := by unfold totOf; rw [if_neg (by omega)]
   unfold ownE checkE
   rw [ht, if_neg (by omega), if_neg (by omega), if_neg hid, if_neg (by rw [hex]; simp), if_neg (by omega), if_pos k]
   unfold staE
   rw [if_pos]
   refine ⟨by unfold isID; exact decide_eq_true (by omega), ?_⟩
   rw [h.id]
   simp only
   omega
theorem doesE_len {l : List S48} {o : S41} (h : Stands o l.length) : (doesE l o).length = l.length + (wid o).toNat := by
 unfold doesE
 by_cases c1 : o.f0.f1 = 1
 · rw [if_pos c1]; have := h.ins c1; exact insC_len l o (by omega)
 · have hw : wid o = 0 := if_neg c1
   rw [if_neg c1, hw]
   by_cases c2 : o.f0.f1 = 2
   · rw [if_pos c2, hidC_len]; rfl
   · rw [if_neg c2]
     by_cases c3 : o.f0.f1 = 3
     · rw [if_pos c3, hidC_len]; rfl
     · rw [if_neg c3]; rfl
theorem foldE_snoc : ∀ (l : List S48) (a : List S41) (o : S41), foldE l (a ++ [o]) = doesE (foldE l a) o
 | _, [], _ => rfl
 | l, x :: t, o => foldE_snoc (doesE l x) t o
theorem standsL_snoc : ∀ (l : List S48) (a : List S41) (o : S41), StandsL l a → Stands o (foldE l a).length → (foldE l a).length ≤ 1000 → StandsL l (a ++ [o])
 | _, [], _, _, h1, h2 => ⟨h1, h2, trivial⟩
 | l, x :: t, o, h, h1, h2 => ⟨h.1, h.2.1, standsL_snoc (doesE l x) t o h.2.2 h1 h2⟩
theorem MadeRun.stands {ci : Int} {n0 : Nat} {a : List S41} {n : Nat} (h : MadeRun ci n0 a n) {l : List S48} (hl : l.length = n0) : n ≤ 1000 → StandsL l a ∧ (foldE l a).length = n := by
 induction h with
 | nil => exact fun _ => ⟨trivial, hl⟩
 | snoc hr ho ih =>
  intro hb
  obtain ⟨h1, h2⟩ := ih (by omega)
  have hs := ho.stands
  rw [← h2] at hs
  refine ⟨standsL_snoc _ _ _ h1 hs (by omega), ?_⟩
  rw [foldE_snoc, doesE_len hs, h2]
theorem MadeRun.good {ci : Int} {n0 : Nat} {a : List S41} {n : Nat} (h : MadeRun ci n0 a n) (hc : 1 ≤ ci ∧ ci ≤ 2) : n ≤ 1000 → a.length ≤ 1000 → ∀ o ∈ a, Good o := by
 induction h with
 | nil => intro _ _ o ho; cases ho
 | snoc hr ho ih =>
  intro hb hl x hx
  rw [List.length_append, List.length_singleton] at hl
  rcases List.mem_append.1 hx with hx | hx
  · exact ih (by omega) (by omega) x hx
  · rw [List.mem_singleton.1 hx]; exact made_good ho (by omega) hc (by omega)

def Behind (l : List S48) (c g : Int) : Prop := c = 0 ∧ g = 0 ∨ 0 < c ∧ 0 < g ∧ g ≤ (l.length : Int) ∧ ∃ x, l[(g - 1).toNat]? = some x ∧ x.f0.f0 = 0 ∧ x.f0.f1 = 0 ∧ x.f1 = c - 1
theorem Behind.range {l : List S48} {c g : Int} (h : Behind l c g) : 0 ≤ g ∧ g ≤ (l.length : Int) := by
 rcases h with ⟨_, h⟩ | ⟨_, h1, h2, _⟩ <;> omega
end Go.Proofs.YtloccjkcmlkifaaDoor
end

section
/- A run of the walk's own lies in one box: its operations are read and written there. -/
namespace Go.Proofs.YtloccjkcmlkifaaDoor
open Go.RowKit Go.Proofs.YtloccjkcmlkifaaDoor.PAll Go.Proofs.YtloccjkcmlkifaaDoorW.PrintWords Go.Proofs.YtloccjkcmlkifaaDoorW.PrintLast

abbrev fineRun (l : List S41) : Prop := l.length ≤ 1048576 ∧ ∀ o ∈ l, fineOp o
abbrev OV := S41 × Value
def cellsP (p : List OV) : List Value := p.flatMap fun x => (opA x.1 x.2).toList
theorem cellsP_app (p q : List OV) : cellsP (p ++ q) = cellsP p ++ cellsP q := List.flatMap_append
theorem cellsP_cons (x : OV) (q : List OV) : cellsP (x :: q) = (opA x.1 x.2).toList ++ cellsP q := List.flatMap_cons
theorem cellsP_len : ∀ p : List OV, (cellsP p).length = p.length * 9
 | [] => rfl
 | x :: t => by
  rw [cellsP_cons, List.length_append, cellsP_len t]
  show 9 + t.length * 9 = (t.length + 1) * 9
  omega
abbrev OwnP (base : Nat) (p : List OV) (W : World) : Prop := ∀ x ∈ p, OpR W base x.2 x.1
theorem ownP_put {base : Nat} {pd pr : List OV} {x y : OV} {W : World} (h : OwnP base (pd ++ x :: pr) W) (hy : OpR W base y.2 y.1) : OwnP base (pd ++ y :: pr) W := fun z hz => by
 rcases List.mem_append.1 hz with hz | hz
 · exact h z (List.mem_append_left _ hz)
 · rcases List.mem_cons.1 hz with rfl | hz
   · exact hy
   · exact h z (List.mem_append_right _ (List.mem_cons_of_mem _ hz))
def RunAt (bs : List Bx) (i : Nat) (v : Value) (p : List OV) : Prop :=
 (v = .slice none 0 0 ∧ p = []) ∨ ∃ g c rest, v = .slice (some ⟨g, 0, none⟩) p.length c ∧ p.length ≤ c ∧ bs[i]? = some (g, 41, (cellsP p ++ rest).toArray)
theorem RunAt.cons {bs : List Bx} {i : Nat} {v : Value} {p : List OV} (h : RunAt bs i v p) (b : Bx) : RunAt (b :: bs) (i + 1) v p := by
 rcases h with h | ⟨g, c, rest, h1, h2, h3⟩
 · exact .inl h
 · exact .inr ⟨g, c, rest, h1, h2, by rw [List.getElem?_cons_succ]; exact h3⟩
theorem RunAt.tail {b : Bx} {bs : List Bx} {i : Nat} {v : Value} {p : List OV} (h : RunAt (b :: bs) (i + 1) v p) : RunAt bs i v p := by
 rcases h with h | ⟨g, c, rest, h1, h2, h3⟩
 · exact .inl h
 · exact .inr ⟨g, c, rest, h1, h2, by rw [List.getElem?_cons_succ] at h3; exact h3⟩
theorem RunAt.slice {bs : List Bx} {i : Nat} {v : Value} {p : List OV} (h : RunAt bs i v p) : ∃ A c, v = .slice A p.length c := by
 rcases h with ⟨h, rfl⟩ | ⟨g, c, rest, h1, h2, h3⟩
 · exact ⟨none, 0, h⟩
 · exact ⟨_, c, h1⟩
theorem RunAt.at_ {bs : List Bx} {i n c : Nat} {A : Option Addr} {pd pr : List OV} {x : OV} (h : RunAt bs i (.slice A n c) (pd ++ x :: pr)) :
 ∃ g rest, A = some ⟨g, 0, none⟩ ∧ n = (pd ++ x :: pr).length ∧ n ≤ c ∧ bs[i]? = some (g, 41, (cellsP (pd ++ x :: pr) ++ rest).toArray) := by
 rcases h with ⟨_, h⟩ | ⟨g, c', rest, h1, h2, h3⟩
 · simp at h
 · injection h1 with e1 e2 e3
   exact ⟨g, rest, e1, e2, by omega, h3⟩
theorem run_cells (pd pr : List OV) (x : OV) (rest : List Value) : (opA x.1 x.2).toList = ((cellsP (pd ++ x :: pr) ++ rest).drop (pd.length * 9)).take (opA x.1 x.2).toList.length := by
 rw [cellsP_app, cellsP_cons, List.append_assoc, ← cellsP_len pd, List.drop_left, List.append_assoc, List.take_left]
theorem St.atRun {w0 w : World} {bs : List Bx} {F : World → Prop} (S : St w0 w bs F) {i n c : Nat} {ad : Addr} {pd pr : List OV} {x : OV} (h : RunAt bs i (.slice (some ad) n c) (pd ++ x :: pr)) : atL w (ad.add (pd.length * 9)) 0 (opA x.1 x.2).toList := by
 obtain ⟨g, rest, e, _, _, h3⟩ := h.at_
 obtain rfl := Option.some.inj e
 rw [add_plain]
 exact atL_sub (S.at_ i h3) _ _ (run_cells pd pr x rest)
theorem blk_setMid {g : Nat} {t : TypeId} : ∀ (vs : List Value) (pre old suf : List Value) (W : World), W.heap[g]? = some (.cells (pre ++ (old ++ suf)).toArray t (0, 0)) → old.length = vs.length →
 (W.setCells g pre.length vs).heap[g]? = some (.cells (pre ++ (vs ++ suf)).toArray t (0, 0))
 | [], pre, old, suf, W, h, hl => by
  obtain rfl : old = [] := by simpa using hl
  exact h
 | _ :: _, _, [], _, _, _, hl => by simp at hl
 | v :: r, pre, u :: q, suf, W, h, hl => by
  show ((W.setCell ⟨g, pre.length, none⟩ v).setCells g (pre.length + 1) r).heap[g]? = _
  have h1 : (W.setCell ⟨g, pre.length, none⟩ v).heap[g]? = some (.cells ((pre ++ [v]) ++ (q ++ suf)).toArray t (0, 0)) := by
   rw [blk_set h]
   congr 2
   simp
  have := blk_setMid r (pre ++ [v]) q suf (W.setCell ⟨g, pre.length, none⟩ v) h1 (by simpa using hl)
  simpa using this
theorem St.putRun {w0 w : World} {bs : List Bx} {F : World → Prop} (S : St w0 w bs F) {i n c : Nat} {g : Nat} {pd pr : List OV} {x : OV} (h : RunAt bs i (.slice (some ⟨g, 0, none⟩) n c) (pd ++ x :: pr)) (y : OV) :
 ∃ B, St w0 (w.setCells g (pd.length * 9) (opA y.1 y.2).toList) (bs.set i B) F ∧ RunAt (bs.set i B) i (.slice (some ⟨g, 0, none⟩) n c) (pd ++ y :: pr) ∧ ∀ j u q, j ≠ i → RunAt bs j u q → RunAt (bs.set i B) j u q := by
 obtain ⟨g', rest, e, hn, hc, h3⟩ := h.at_
 have e' := Option.some.inj e
 injection e' with e'
 subst e'
 have hi : i < bs.length := (List.getElem?_eq_some_iff.1 h3).1
 have hb := S.at_ i h3
 refine ⟨(g, 41, (cellsP (pd ++ y :: pr) ++ rest).toArray), S.put i h3 (below_setCells _ _ _ S.below (S.ge i h3)) ?_ (fun k hk => setCells_far _ _ _ k hk), .inr ⟨g, c, rest, ?_, ?_, ?_⟩, fun j u q hj hr => ?_⟩
 · have := blk_setMid (g := g) (t := 41) (opA y.1 y.2).toList (cellsP pd) (opA x.1 x.2).toList (cellsP pr ++ rest) w (by rw [hb, cellsP_app, cellsP_cons]; simp only [List.append_assoc]) rfl
   rw [cellsP_len] at this
   rw [this, cellsP_app, cellsP_cons]
   simp only [List.append_assoc]
 · rw [hn]; simp
 · rw [hn] at hc; simpa using hc
 · rw [List.getElem?_set_self hi]
 · rcases hr with hr | ⟨g2, c2, r2, q1, q2, q3⟩
   · exact .inl hr
   · exact .inr ⟨g2, c2, r2, q1, q2, by rw [List.getElem?_set_ne (Ne.symm hj)]; exact q3⟩
section
variable {P : Program} {ops : Array Oper} {rest : List Oper} {o : Oper} {a : Act} {Q : Exit → Act → World → Prop} {w0 W : World} {bs : List Bx} {F : World → Prop} {g : Nat} {t : TypeId} {cs : Array Value}
theorem ev_put (S : Aside0 (St w0 W bs F)) {i n c : Nat} {ad : Addr} {pd pr : List OV} {x : OV} (HR : Aside0 (RunAt bs i (.slice (some ad) n c) (pd ++ x :: pr))) (y : OV) {p : Tmp} {v : Operand} {k : Nat}
 (h : ∀ w' B, Aside0 (St w0 w' (bs.set i B) F) → Aside0 (RunAt (bs.set i B) i (.slice (some ad) n c) (pd ++ y :: pr)) → (∀ j u q, j ≠ i → RunAt bs j u q → RunAt (bs.set i B) j u q) → wpList P ops Q rest a w')
 (hk : pd.length = k := by rfl) (ho : o.op = .store 41 (.tmp p) v := by rfl) (hp : a.eval (.tmp p) = .pointer (some (ad.add (k * 9))) := by rfl) (hv : a.eval v = .agg (opA y.1 y.2) := by rfl) (hN : o.dst = none := by rfl)
 (hw : Region.wanted o (yielded ops a.tmps) = true := by exact wanted_plain rfl) (hi : (P.info? 41).map (·.size) = some 9 := by kernel_rfl) (hone : (opA y.1 y.2).toList.all (·.oneCell') = true := by rfl) : wpList P ops Q (o :: rest) a W := by
 obtain ⟨g, r, e, hn, hc, h3⟩ := HR.out.at_
 obtain rfl := Option.some.inj e
 have hb := S.out.at_ i h3
 rw [add_plain, ← hk] at hp
 obtain ⟨B, h1, h2, h4⟩ := S.out.putRun HR.out y
 have hth : W.there g (pd.length * 9) (opA y.1 y.2).size := fun j hj => ⟨by
  have hlt : pd.length * 9 + j < (cellsP (pd ++ x :: pr) ++ r).length := by
   rw [List.length_append, cellsP_len, List.length_append, List.length_cons]
   have : j < 9 := hj
   omega
  rw [blk_cell hb, List.getElem?_toArray, List.getElem?_eq_getElem hlt]
  rfl, blk_frozen hb _⟩
 have hrun : (execOp a.eval o).run P W = .ok .skip (W.setCells g (pd.length * 9) (opA y.1 y.2).toList) := by
  unfold execOp
  simp only [ho, hp, hv, Sem.run_bind, Sem.run_pure, Result.andThen_ok, run_storeAt_mid W g (pd.length * 9) 41 (opA y.1 y.2) hth hi (by rw [← Array.all_toList]; exact hone)]
 exact ev_skip hw hN hrun (h _ B ⟨h1⟩ ⟨h2⟩ h4)
end
theorem St.addBox {w0 w w' : World} {bs : List Bx} {F F2 : World → Prop} {g : Nat} {t : TypeId} {cs : Array Value} (S : St w0 w bs F) (hb : Below w.heap.size w w') (hn : w'.heap[g]? = some (.cells cs t (0, 0))) (hg : w.heap.size ≤ g) (h2 : Foot F2 w' (fun k => w.heap.size ≤ k ∧ k ≠ g)) : St w0 w' ((g, t, cs) :: bs) (fun W => F W ∧ F2 W) := by
 have S' := S.step hb
 have hlt : ∀ k ∈ bs.map (·.1), k < w.heap.size := fun k hk => by
  obtain ⟨b, hb', rfl⟩ := List.mem_map.1 hk
  exact S.lt b hb'
 refine ⟨S'.below, fun b hm => ?_, ?_, fun W' hW => ⟨((S.foot.old hb).mono fun k hk hm => ?_) W' hW, (h2.mono fun k hk hm => ?_) W' hW⟩⟩
 · rcases List.mem_cons.1 hm with rfl | hm
   · exact ⟨hn, Nat.le_trans S.below.size hg⟩
   · exact S'.box b hm
 · rw [List.map_cons, List.nodup_cons]
   exact ⟨fun hm => by have := hlt _ hm; have e : g < w.heap.size := this; omega, S.nd⟩
 · rcases List.mem_cons.1 hm with h | h
   · have e : k = g := h
     have := hk.2
     omega
   · exact hk.1 h
 · rcases List.mem_cons.1 hm with h | h
   · exact hk.2 h
   · have := hlt _ h
     have := hk.1
     omega
theorem ownP_foot {w : World} {base : Nat} {ok : Nat → Prop} {p : List OV} (h : ∀ x ∈ p, Kd.R k94 94 w base ok x.2 x.1.f3) : Foot (OwnP base p) w (fun k => base ≤ k ∧ ok k) := fun _ hW x hx =>
 Kd.R_mono (Kd.R_move (Kd.R_bound (h x hx)) (fun k hk => hW k ⟨hk.2.1, hk.1⟩ hk.2.2.1)) (fun _ _ => trivial)
theorem ownP_lower {w : World} {base base' : Nat} {p : List OV} (h : OwnP base p w) (hb : base' ≤ base) : OwnP base' p w := fun x hx => Kd.R_lower (h x hx) hb
theorem reps_pairs {w : World} {base : Nat} {ok : Nat → Prop} : ∀ {l : List S41} {cs : List Value}, Reps (k41.M w base ok) 9 l cs → ∃ p : List OV, p.map (·.1) = l ∧ cs = cellsP p ∧ ∀ x ∈ p, Kd.R k94 94 w base ok x.2 x.1.f3
 | [], cs, h => ⟨[], rfl, by
  have := h.1
  exact List.length_eq_zero_iff.1 (by simpa using this), by simp⟩
 | o :: t, cs, h => by
  have h0 := h.2 0 o rfl
  rw [Nat.zero_mul, List.drop_zero] at h0
  obtain ⟨v5, e5, hv5⟩ := k41_openM h0
  have ht : Reps (k41.M w base ok) 9 t (cs.drop 9) := ⟨by rw [List.length_drop, h.1, List.length_cons]; omega, fun j p hj => by
   have := h.2 (j + 1) p (by simpa using hj)
   rw [List.drop_drop]
   rw [show 9 + j * 9 = (j + 1) * 9 by omega]
   exact this⟩
  obtain ⟨p, hp1, hp2, hp3⟩ := reps_pairs ht
  refine ⟨(o, v5) :: p, by rw [List.map_cons, hp1], ?_, fun x hx => ?_⟩
  · rw [cellsP_cons, ← hp2, ← List.take_append_drop 9 cs, e5]
    simp
  · rcases List.mem_cons.1 hx with rfl | hx
    · exact hv5
    · exact hp3 x hx
theorem St.addRun {w0 w w' : World} {bs : List Bx} {F : World → Prop} {v u : Value} {l : List S41} {i : Nat} {q : List OV} (S : St w0 w bs F) (hb : Below w.heap.size w w') (h : OwnRun w' w.heap.size v l) (A : RunAt bs i u q) :
 ∃ p bs' i' j, p.map (·.1) = l ∧ j ≠ i' ∧ RunAt bs' i' u q ∧ RunAt bs' j v p ∧ St w0 w' bs' (fun W => F W ∧ OwnP w0.heap.size p W) := by
 obtain ⟨h0, inner, ho, hr⟩ := Kd.S_R h
 obtain ⟨p, hp1, hp2, hp3⟩ := reps_pairs hr
 have hpl : p.length = l.length := by rw [← hp1, List.length_map]
 rcases ho.2 with ⟨rfl, hl⟩ | ⟨g, cap, cur, rfl, hg, hh, hcap, _, hcs, hct⟩
 · obtain rfl : p = [] := List.length_eq_zero_iff.1 (hpl.trans hl)
   exact ⟨[], bs, i, i + 1, hp1, by omega, A, .inl ⟨rfl, rfl⟩, (S.step hb).weak fun _ h => ⟨h, by simp [OwnP]⟩⟩
 · have hcur : cur = (cellsP p ++ cur.toList.drop (l.length * 9)).toArray := by
    have hct' : List.take (l.length * 9) cur.toList = inner := hct
    rw [← hp2, ← hct', List.take_append_drop]
   refine ⟨p, (g, 41, cur) :: bs, i + 1, 0, hp1, by omega, A.cons _, .inr ⟨g, cap, cur.toList.drop (l.length * 9), by rw [hpl], by omega, by rw [← hcur]; rfl⟩, S.addBox hb hh hg (((ownP_foot hp3).imp fun W hW => ownP_lower hW S.below.size).mono fun k hk => ⟨hk.1, fun e => hk.2.2 (by rw [e]; rfl)⟩)⟩
def RunR (w : World) (base : Nat) (v : Value) (l : List S41) : Prop := Foot (fun W => RunC W v l) w (fun k => base ≤ k)
theorem RunR.C {w : World} {base : Nat} {v : Value} {l : List S41} (h : RunR w base v l) : RunC w v l := Foot.now h
theorem runR_nil (w : World) (base : Nat) : RunR w base (.slice none 0 0) [] := fun _ _ => ⟨none, 0, rfl, Nat.le_refl _, rfl, by simp, fun h => absurd h (by simp)⟩
theorem run_C {W : World} {base : Nat} {g c : Nat} {p : List OV} {rest : List Value} (hp : OwnP base p W) (hh : W.heap[g]? = some (.cells (cellsP p ++ rest).toArray 41 (0, 0))) (hc : p.length ≤ c) (hn : p.length ≤ 1048576) : RunC W (.slice (some ⟨g, 0, none⟩) p.length c) (p.map (·.1)) := by
 refine ⟨some ⟨g, 0, none⟩, c, by rw [List.length_map], by rw [List.length_map]; exact hc, rfl, by rw [List.length_map]; omega, fun _ => ⟨_, rfl, fun j o hj => ?_⟩⟩
 rw [List.getElem?_map] at hj
 obtain ⟨x, hx, rfl⟩ := Option.map_eq_some_iff.1 hj
 obtain ⟨hjl, hjx⟩ := List.getElem?_eq_some_iff.1 hx
 have hm : x ∈ p := List.mem_of_getElem? hx
 refine ⟨(opA x.1 x.2).toList, rfl, opA_K (hp x hm).C, fun k u hu => ?_⟩
 have hsplit : p = p.take j ++ x :: p.drop (j + 1) := by
  rw [← hjx, ← List.drop_eq_getElem_cons hjl, List.take_append_drop]
 have hk : k < 9 := (List.getElem?_eq_some_iff.1 hu).1
 have hc2 := run_cells (p.take j) (p.drop (j + 1)) x rest
 rw [← hsplit, List.length_take, Nat.min_eq_left (by omega)] at hc2
 rw [add_plain, blk_cell hh, ← hu, hc2]
 rw [List.getElem?_take_of_lt (show k < (opA x.1 x.2).toList.length from hk), List.getElem?_drop, List.getElem?_toArray]
 rfl
theorem RunAt.R {w0 w : World} {bs : List Bx} {F : World → Prop} {i : Nat} {v : Value} {p : List OV} (h : RunAt bs i v p) (S : St w0 w bs F) (hp : OwnP w0.heap.size p w) (hn : p.length ≤ 1048576) : RunR w w0.heap.size v (p.map (·.1)) := by
 rcases h with ⟨rfl, rfl⟩ | ⟨g, c, rest, rfl, hc, hi⟩
 · exact runR_nil _ _
 · intro W hW
   refine run_C (base := w0.heap.size) (rest := rest) (fun x hx => Kd.R_mono (Kd.R_move (Kd.R_bound (hp x hx)) (fun k hk => hW k hk.2.1 hk.2.2.1)) (fun _ _ => trivial)) ?_ hc hn
   have hb := S.at_ i hi
   exact (hW g (S.ge i hi) (blk_lt hb)).trans hb
theorem clones_loop (l : List S41) (hf : ∀ o ∈ l, fineOp o) (hl : l.length ≤ 1048576) : ∀ (d k i : Nat), l.length = i + d → d + 1 ≤ k → xform_clones.l0 k (l.take i) l (l.length : Int) (i : Int) = some l := by
 intro d
 induction d with
 | zero =>
  intro k i h hk
  obtain ⟨k, rfl⟩ : ∃ m, k = m + 1 := ⟨k - 1, by omega⟩
  rw [xform_clones.l0, if_neg (by omega), List.take_of_length_le (by omega)]
 | succ d ih =>
  intro k i h hk
  obtain ⟨k, rfl⟩ : ∃ m, k = m + 1 := ⟨k - 1, by omega⟩
  have hi : i < l.length := by omega
  have q1 : (i : Int) < (l.length : Int) := by omega
  have q2 : (0 : Int) ≤ (i : Int) := by omega
  have q3 : (l.take i).length < 1466015503701 := by simp; omega
  have w : wrap64 ((i : Int) + 1) = ((i + 1 : Nat) : Int) := by rw [wrap_id (by omega) (by omega)]; omega
  obtain ⟨o, ho⟩ : ∃ o, o = l[i] := ⟨_, rfl⟩
  have e : rd_T41 l (i : Int) = o := by unfold rd_T41; rw [Int.toNat_natCast, List.getD_eq_getElem?_getD, List.getElem?_eq_getElem hi, ho]; rfl
  have hfo := hf o (by rw [ho]; exact List.getElem_mem hi)
  rw [xform_clones.l0, if_pos q1, if_pos q2, if_pos q1, e, clone_f o hfo.2]
  simp only [Option.bind_some]
  rw [if_pos q3, w]
  have := ih k (i + 1) (by omega) (by omega)
  rw [List.take_succ_eq_append_getElem hi, ← ho] at this
  exact this
theorem clones_any (l : List S41) (v : Value) (w : World) (h : RunC w v l) (hf : ∀ o ∈ l, fineOp o) (hl : l.length ≤ 1048576) :
 Calls Tryd.prog 61 #[v] w fun e w' => ∃ u, e = .returned u ∧ OwnRun w' w.heap.size u l ∧ Below w.heap.size w w' := by
 obtain ⟨A, c, rfl, h1, h2⟩ := h
 have := clones_loop l hf hl l.length (l.length + 1) 0 (by omega) (by omega)
 exact xform_clones.calls (l.length + 1) A c l l w h2 h1 (by unfold xform_clones.f; rw [if_pos (by omega)]; exact this)
end Go.Proofs.YtloccjkcmlkifaaDoor
end
