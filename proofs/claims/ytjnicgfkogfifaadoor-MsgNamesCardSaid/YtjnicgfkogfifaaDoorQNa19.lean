/- MsgNames_card, part 19. -/
import Derived.Test.YtjnicgfkogfifaaDoorQNa18
import Derived.WalkKit
import Derived.ProofKit
import Derived.Test.YtjnicgfkogfifaaDoorProg
import Derived.Deep.Draws
import Derived.Laws.RangeAny
import Derived.Test.YtjnicgfkogfifaaDoorQNa15
import Derived.Lib.Hide
import Derived.Deep.LoopGhost
import Derived.IntWalk

section
/- More events of a walk: what is elder, a part of a box, two cells. -/
namespace Go.Proofs.YtjnicgfkogfifaaDoor
open Go.RowKit Go.Proofs.YtjnicgfkogfifaaDoorW.PrintWords Go.Proofs.YtjnicgfkogfifaaDoorW.PrintLast

section
variable {P : Program} {ops : Array Oper} {Q : Exit → Act → World → Prop} {md : Region.Mode} {S : World → Prop} {ds : List Nat} {fuel : Nat} {l : Array Bool} {a a' : Act} {w w0 : World} {oi : Oper} {N : Tmp} {rest : List Oper} {o : Oper} {W : World} {bs : List Bx} {F : World → Prop} {g : Nat} {t : TypeId} {cs : Array Value}
theorem le_ (i : Nat) (cs : Array Value) {ty : TypeId} {x : Operand} {d : TypeDesc} {ad : Addr} (hS : S w) (hcc : ∀ w', S w' → atL w' ad 0 cs.toList)
 (h : wpAnyLast P md ops Q S ds fuel (l.setIfInBounds i true) a' w)
 (hi : ops[i]? = some oi := by rfl) (hN : oi.dst = some N := by rfl) (hc : takeB md ops ds l (l.setIfInBounds i true) i = true := by kernel_rfl)
 (ho : oi.op = .load ty x := by rfl) (hx : a.eval x = .pointer (some ad) := by rfl)
 (hw : Region.wanted oi (yielded ops a.tmps) = true := by first | exact wanted_plain rfl | (refine wanted_on rfl ?_; simp [yielded]))
 (hu : P.underlying ty = some d := by first | exact Tryd.underlying35 | exact Tryd.underlying37 | exact Tryd.underlying93 | exact Tryd.underlying26 | exact Tryd.underlying86 | exact Tryd.underlying107 | exact Tryd.underlying50 | exact Tryd.underlying54 | exact Tryd.underlying29 | exact Tryd.underlying102) (hdd : (match d with | .struct _ | .array _ _ => true | _ => false) = true := by rfl) (hs : (P.info? ty).map (·.size) = some cs.size := by kernel_rfl)
 (ha : a.put (some N) (.agg cs) = a' := by (simp only [Act.put, List.setIfInBounds_toArray, List.set_cons_zero, List.set_cons_succ]; rfl))
 (hQ : ∀ c a w, Q (.panic c) (a.put oi.dst (.agg cs)) w → Q (.panic c) a w := by exact fun _ _ _ h => h) : wpAnyLast P md ops Q S ds (fuel + 1) l a w :=
 take_ (l.setIfInBounds i true) hi hN hc hQ (.inl ⟨hw, fun w' hS' => by
  have hr := run_load_wide (P := P) w' ad ty cs.toList d (hcc w' hS') hu hdd (by simpa using hs)
  unfold execOp
  simp only [ho, hx, Instr.loadAt, Instr.sureAddr, Sem.run_bind, Sem.run_pure, Result.andThen_ok, hr]⟩) hS ha h
theorem ev_ext (cs : Array Value) {N : Tmp} {ty : TypeId} {x : Operand} {d : TypeDesc} {ad : Addr} (hc : atL W ad 0 cs.toList)
 (h : wpList P ops Q rest (a.put (some N) (.agg cs)) W)
 (ho : o.op = .load ty x := by rfl) (hx : a.eval x = .pointer (some ad) := by rfl) (hd : o.dst = some N := by rfl)
 (hw : Region.wanted o (yielded ops a.tmps) = true := by first | exact wanted_plain rfl | (refine wanted_on rfl ?_; simp [yielded])) (hu : P.underlying ty = some d := by first | exact Tryd.underlying35 | exact Tryd.underlying37 | exact Tryd.underlying93 | exact Tryd.underlying26 | exact Tryd.underlying86 | exact Tryd.underlying107 | exact Tryd.underlying50 | exact Tryd.underlying54 | exact Tryd.underlying29 | exact Tryd.underlying102) (hdd : (match d with | .struct _ | .array _ _ => true | _ => false) = true := by rfl) (hi : (P.info? ty).map (·.size) = some cs.size := by kernel_rfl) : wpList P ops Q (o :: rest) a W := by
 have hr := run_load_wide (P := P) W ad ty cs.toList d hc hu hdd (by simpa using hi)
 refine ev_run (v := .agg cs) hw ?_ (by rw [hd]; exact h)
 unfold execOp
 simp only [ho, hx, Instr.loadAt, Instr.sureAddr, Sem.run_bind, Sem.run_pure, Result.andThen_ok, hr]
theorem ev_set2 (S : Aside0 (St w0 W bs F)) {i : Nat} {j : Nat} {ty : TypeId} {p : Tmp} {v : Operand} {u0 u1 : Value}
 (h : ∀ w', Aside0 (St w0 w' (bs.set i (g, t, (cs.setIfInBounds j u0).setIfInBounds (j + 1) u1)) F) → wpList P ops Q rest a w')
 (ho : o.op = .store ty (.tmp p) v := by rfl) (hp : a.eval (.tmp p) = .pointer (some ⟨g, j, none⟩) := by rfl) (e : bs[i]? = some (g, t, cs) := by first | exact ix0 | exact ix1 | exact ix2 | exact ix3) (hv : a.eval v = .agg #[u0, u1] := by rfl) (hN : o.dst = none := by rfl)
 (hw : Region.wanted o (yielded ops a.tmps) = true := by first | exact wanted_plain rfl | (refine wanted_on rfl ?_; first | (simp [yielded]; done) | rfl)) (hs : Nat.blt (j + 1) cs.size = true := by rfl) (hi : (P.info? ty).map (·.size) = some 2 := by kernel_rfl) (h1 : [u0, u1].all (·.oneCell') = true := by rfl) : wpList P ops Q (o :: rest) a W := by
 have hb := S.out.at_ i e
 have hs := Nat.le_of_ble_eq_true hs
 have hrun : (execOp a.eval o).run P W = .ok .skip (W.setCells g j [u0, u1]) := by
  unfold execOp
  simp only [ho, hp, hv, Sem.run_bind, Sem.run_pure, Result.andThen_ok, run_storeAt_mid W g j ty #[u0, u1] (fun k hk => ⟨by rw [blk_cell hb]; simp at hk ⊢; omega, blk_frozen hb _⟩) hi (by rw [← Array.all_toList]; exact h1)]
 refine ev_skip hw hN hrun (h _ ⟨S.out.put i e (below_setCells _ _ _ S.out.below (S.out.ge i e)) ?_ (fun k hk => setCells_far _ _ _ k hk)⟩)
 exact blk_put (blk_put hb j u0 rfl) (j + 1) u1 rfl
theorem kr_ {v : Value} {K : Act → World → Prop} (hy : (execOp a.eval oi).run P w = .ok (.value v) w) (h : K (a.put (some N) v) w) (hN : oi.dst = some N := by rfl)
 (hw : Region.wanted oi (yielded ops a.tmps) = true := by first | exact wanted_plain rfl | (refine wanted_on rfl ?_; simp [yielded])) : if Region.wanted oi (yielded ops a.tmps) = true then Oper.wp P oi a w K Q else K (a.put oi.dst undef) w := by
 rw [if_pos hw]
 unfold Oper.wp
 rw [hy]
 show K (a.put oi.dst _) _
 rw [hN]
 exact h
theorem kc1_ (k : Nat) {p : Tmp} {ty : TypeId} {vo : Operand} {u : Value} {g j : Nat} {t : TypeId} {cs : Array Value} {K : Act → World → Prop} (hSt : St w0 w bs F)
 (h : ∀ w', St w0 w' (bs.set k (g, t, cs.setIfInBounds j u)) F → K a w')
 (ho : oi.op = .store ty (.tmp p) vo := by rfl) (hN : oi.dst = none := by rfl) (hp : a.eval (.tmp p) = .pointer (some ⟨g, j, none⟩) := by rfl) (e : bs[k]? = some (g, t, cs) := by rfl)
 (hw : Region.wanted oi (yielded ops a.tmps) = true := by first | exact wanted_plain rfl | (refine wanted_on rfl ?_; simp [yielded]))
 (hrun : (∀ k, w.cell? ⟨g, k, none⟩ = cs[k]?) → (∀ k, w.frozen? ⟨g, k, none⟩ = false) → (execOp a.eval oi).run P w = .ok .skip (w.setCell ⟨g, j, none⟩ u) := by intro hc_ hf_; first | (go_simp; done) | (go_simp; rfl)) :
 if Region.wanted oi (yielded ops a.tmps) = true then Oper.wp P oi a w K Q else K (a.put oi.dst undef) w := by
 have hb := hSt.at_ k e
 have _ := ho; have _ := hp
 rw [if_pos hw]
 unfold Oper.wp
 rw [hrun (blk_cell hb) (blk_frozen hb)]
 show K (a.put oi.dst undef) _
 rw [hN]
 exact h _ (hSt.put k e (below_setCell0 hSt.below (hSt.ge k e) _ _) (blk_put hb j u rfl) (fun k hk => Below.heap_setCell w ⟨g, j, none⟩ u k hk))
theorem sc_ (i k : Nat) {p : Tmp} {ty : TypeId} {vo : Operand} {u : Value} {g j : Nat} {t : TypeId} {cs : Array Value} (hSt : St w0 w bs F)
 (h : ∀ w', St w0 w' (bs.set k (g, t, cs.setIfInBounds j u)) F → wpAnyLast P md ops Q S ds fuel (l.setIfInBounds i true) a w')
 (hi : ops[i]? = some oi := by rfl) (hN : oi.dst = none := by rfl) (hc : Region.ready md ops l = [i] := by kernel_rfl) (hd : i ∈ ds := by decide)
 (ho : oi.op = .store ty (.tmp p) vo := by rfl) (hp : a.eval (.tmp p) = .pointer (some ⟨g, j, none⟩) := by rfl) (e : bs[k]? = some (g, t, cs) := by rfl)
 (hw : Region.wanted oi (yielded ops a.tmps) = true := by first | exact wanted_plain rfl | (refine wanted_on rfl ?_; simp [yielded]))
 (hrun : (∀ k, w.cell? ⟨g, k, none⟩ = cs[k]?) → (∀ k, w.frozen? ⟨g, k, none⟩ = false) → (execOp a.eval oi).run P w = .ok .skip (w.setCell ⟨g, j, none⟩ u) := by intro hc_ hf_; first | (go_simp; done) | (go_simp; rfl)) : wpAnyLast P md ops Q S ds (fuel + 1) l a w := by
 have hb := hSt.at_ k e
 have _ := ho; have _ := hp
 refine re_ (rl_ i (fun K hK => ?_) AllReadyL.nil hi hd) hc (by simp)
 rw [if_pos hw]
 unfold Oper.wp
 rw [hrun (blk_cell hb) (blk_frozen hb)]
 show K (a.put oi.dst undef) _
 rw [hN]
 exact hK.out _ _ (h _ (hSt.put k e (below_setCell0 hSt.below (hSt.ge k e) _ _) (blk_put hb j u rfl) (fun k hk => Below.heap_setCell w ⟨g, j, none⟩ u k hk)))
end
theorem St.two {w0 w : World} {bs : List Bx} {F : World → Prop} (S : St w0 w bs F) (i : Nat) {g : Nat} {t : TypeId} {cs : Array Value} (j : Nat) {u v : Value} (e : bs[i]? = some (g, t, cs)) (h0 : cs[j]? = some u) (h1 : cs[j + 1]? = some v) : atL w ⟨g, j, none⟩ 0 [u, v] := by
 have hb := blk_cell (S.at_ i e)
 refine ⟨?_, ?_, trivial⟩
 · show w.cell? ((⟨g, j, none⟩ : Addr).add 0) = _
   have : (⟨g, j, none⟩ : Addr).add 0 = ⟨g, j, none⟩ := rfl
   rw [this, hb]; exact h0
 · have : (⟨g, j, none⟩ : Addr).add (0 + 1) = ⟨g, j + 1, none⟩ := rfl
   rw [this, hb]; exact h1
end Go.Proofs.YtjnicgfkogfifaaDoor
end

section
/- Laws for arrays of two whole numbers (compared, read as an element), and a slice of such arrays as a list of pairs. For any program. -/
namespace Go.Proofs.YtjnicgfkogfifaaDoor
open Go.RowKit

theorem run_part_int {P : Program} (w : World) (e : TypeId) (k : IntKind) (he : P.underlying e = some (.int k)) (cs : Array Value) (off : Nat) (v : Value) (h : cs[off]? = some v) :
 (part e cs off).run P w = .ok v w := by
 simp [part, isAgg, run_underlying he, h]
theorem run_sizeOf {P : Program} (w : World) (e : TypeId) (i : TypeInfo) (hi : P.info? e = some i) : (sizeOf e).run P w = .ok i.size w := by
 simp [sizeOf, typeInfo, hi]
theorem run_equalIn_pair {P : Program} (w : World) (d : Nat) (t e : TypeId) (k : IntKind) (a b a' b' : Int) (ht : P.underlying t = some (.array 2 e)) (he : P.underlying e = some (.int k)) (hi : (P.info? e).map (·.size) = some 1) :
 (Op.equalIn (d + 2) t (.agg #[.int k a, .int k b]) (.agg #[.int k a', .int k b'])).run P w = .ok (a == a' && b == b') w := by
 obtain ⟨i, hi, hs⟩ := Option.map_eq_some_iff.1 hi
 have hr : List.range' 0 2 1 = [0, 1] := rfl
 have p0 : ∀ (w : World) x y, (part e #[x, y] (0 * i.size)).run P w = .ok x w := fun w x y => run_part_int w e k he _ _ _ (by simp)
 have p1 : ∀ (w : World) x y, (part e #[x, y] i.size).run P w = .ok y w := fun w x y => run_part_int w e k he _ _ _ (by simp [hs])
 unfold Op.equalIn
 simp only [Sem.run_bind, run_underlying ht, Result.andThen_ok, run_sizeOf w e i hi, Std.Legacy.Range.forIn_eq_forIn_range', Std.Legacy.Range.size, Nat.sub_zero, Nat.add_sub_cancel, Nat.div_one, hr, List.forIn_cons, List.forIn_nil, p0, Nat.one_mul, run_equalIn_int _ _ _ _ _ _ _ he]
 cases h1 : (a == a') <;> cases h2 : (b == b') <;> simp [p1, run_equalIn_int _ _ _ _ _ _ _ he, h2]

def IdsAt (w : World) (A : Option Addr) (l : List (Int × Int)) : Prop :=
 ∀ k, k < l.length → ∃ b o, A = some ⟨b, o, none⟩ ∧ b < w.heap.size ∧ w.cell? ⟨b, o + k * 2, none⟩ = some (.int .i64 (l.getD k (0, 0)).1) ∧ w.cell? ⟨b, o + k * 2 + 1, none⟩ = some (.int .i64 (l.getD k (0, 0)).2)

theorem IdsAt.below {w w' : World} {A : Option Addr} {l : List (Int × Int)} (h : IdsAt w A l) (hb : Below w.heap.size w w') : IdsAt w' A l := by
 intro k hk'
 obtain ⟨b, o, hA, hb', h1, h2⟩ := h k hk'
 exact ⟨b, o, hA, by have := hb.size; omega, (hb.cell (p := ⟨b, _, none⟩) hb').trans h1, (hb.cell (p := ⟨b, _, none⟩) hb').trans h2⟩

end Go.Proofs.YtjnicgfkogfifaaDoor
end

section
/- The table of package-level variables, where it lies. -/
namespace Go.Proofs.YtjnicgfkogfifaaDoor
open Go.RowKit
def barsL : List (Int × Int) := [(0, 8), (11, 31), (127, 159), (64976, 65007), (65279, 65279)]
def GW (w : World) : Prop := 3 ≤ w.heap.size ∧ ∀ i, i < 5 → w.cell? ⟨2, i * 2, none⟩ = some (.int .i32 (barsL.getD i (0, 0)).1) ∧ w.cell? ⟨2, i * 2 + 1, none⟩ = some (.int .i32 (barsL.getD i (0, 0)).2)
theorem GW.below {w w' : World} (h : GW w) (hb : Below w.heap.size w w') : GW w' := by
 obtain ⟨h0, h1⟩ := h
 have := hb.size
 exact ⟨by omega, fun i hi => ⟨(hb.cell (p := ⟨2, i * 2, none⟩) (by show 2 < _; omega)).trans (h1 i hi).1, (hb.cell (p := ⟨2, i * 2 + 1, none⟩) (by show 2 < _; omega)).trans (h1 i hi).2⟩⟩
theorem GW.drewN {w : World} (h : GW w) (n : Nat) : GW (w.drewN n) := h
theorem GW.drew {w : World} (h : GW w) : GW w.drew := h
end Go.Proofs.YtjnicgfkogfifaaDoor
end

section
/- What utext.Check answers, in plain words. -/
namespace Go.Proofs.YtjnicgfkogfifaaDoor
open Go.RowKit

def okSeq (s : ByteArray) (pos : Nat) (c : Int) : Bool :=
 if c = 65533 then (if 3 ≤ (s.extract pos s.size).size then ((s.extract pos s.size).extract 0 3).toList == (⟨#[239, 191, 189]⟩ : ByteArray).toList else false) else true
def okRune (c : Int) : Bool := (barsL.all fun b => !(decide (b.1 ≤ c) && decide (c ≤ b.2))) && decide (Go.bits .and .i32 c 65535 < 65534)
def chkFrom (s : ByteArray) : Nat → Nat → Int → Int × Int × Int
 | 0, _, n => (n, 0, 0)
 | f + 1, pos, n =>
  if pos < s.size then
   if okSeq s pos (Utf8.decode s pos).1 then
    if okRune (Utf8.decode s pos).1 then chkFrom s f (pos + (Utf8.decode s pos).2) (wrap64 (n + 1)) else (0, pos, 11)
   else (0, pos, 10)
  else (n, 0, 0)
def utext_Check.f (s : ByteArray) : Option (Int × Int × Int) := some (chkFrom s s.size 0 0)
theorem width_pos (s : ByteArray) (pos : Nat) (h : pos < s.size) : 1 ≤ (Utf8.decode s pos).2 := by
 by_cases ha : (s[pos]'h).toNat < 128
 · rw [decode_ascii s pos h ha]
   exact Nat.le_refl _
 · exact (decode_high s pos h (by omega)).2
theorem chk_end (s : ByteArray) (f pos : Nat) (n : Int) (h : ¬ pos < s.size) : chkFrom s f pos n = (n, 0, 0) := by
 cases f with
 | zero => rfl
 | succ f => simp [chkFrom, h]
end Go.Proofs.YtjnicgfkogfifaaDoor
end

section
/- utext.letIn, utext.Check, by their contracts. -/
namespace Go.Proofs.YtjnicgfkogfifaaDoor
open Go.RowKit Go.Proofs.YtjnicgfkogfifaaDoorW.PrintWords

theorem run_load_cells {P : Program} (w : World) (g : Nat) (ty : TypeId) (cs : List Value) (d : TypeDesc) (hc : ∀ j v, cs[j]? = some v → w.cell? ⟨g, j, none⟩ = some v)
 (hu : P.underlying ty = some d) (hd : (match d with | .struct _ | .array _ _ => true | _ => false) = true) (hi : (P.info? ty).map (·.size) = some cs.length) :
 (loadVar ty ⟨g, 0, none⟩).run P w = .ok (.agg cs.toArray) w := by
 have hl : (loadCells ⟨g, 0, none⟩ cs.length).run P w = .ok cs.toArray w :=
  run_loadCells_list (P := P) w ⟨g, 0, none⟩ cs (fun j v hv => by
   have hadd : (⟨g, 0, none⟩ : Addr).add j = ⟨g, j, none⟩ := by unfold Addr.add; split <;> simp_all
   rw [hadd]
   exact hc j v hv)
 cases hq : P.info? ty with
 | none => simp [hq] at hi
 | some i =>
  have hs : i.size = cs.length := by simpa [hq] using hi
  have hagg : (isAgg ty).run P w = .ok true w := by
   unfold isAgg
   rw [Sem.run_bind, run_underlying hu w]
   cases d <;> simp_all
  simp [loadVar, Sem.run_bind, hagg, sizeOf, typeInfo, hq, hs, hl]
theorem wpList_load_cells {P : Program} {ops : Array Oper} {rest : List Oper} {o : Oper} {a : Act} {w : World} {Q : Exit → Act → World → Prop} (hgd : o.guard = none) (ty : TypeId) (x : Operand) (ho : o.op = .load ty x)
 (g : Nat) (hx : a.eval x = .pointer (some ⟨g, 0, none⟩)) (cs : List Value) (d : TypeDesc) (hc : ∀ j v, cs[j]? = some v → w.cell? ⟨g, j, none⟩ = some v)
 (hu : P.underlying ty = some d) (hd : (match d with | .struct _ | .array _ _ => true | _ => false) = true) (hi : (P.info? ty).map (·.size) = some cs.length)
 (h : wpList P ops Q rest (a.put o.dst (.agg cs.toArray)) w) : wpList P ops Q (o :: rest) a w := by
 refine wpList_plain hgd fun _ hK => ?_
 unfold Oper.wp execOp
 simp only [ho, hx, Instr.loadAt, Instr.sureAddr, Sem.run_bind, Sem.run_pure, Result.andThen_ok, run_load_cells w g ty cs d hc hu hd hi]
 exact hK _ _ h

def barCells : List Value := [.int .i32 0, .int .i32 8, .int .i32 11, .int .i32 31, .int .i32 127, .int .i32 159, .int .i32 64976, .int .i32 65007, .int .i32 65279, .int .i32 65279]
theorem bars_cells {w : World} (h : GW w) : ∀ j v, barCells[j]? = some v → w.cell? ⟨2, j, none⟩ = some v := by
 intro j v hv
 have a0 := h.2 0 (by omega); have a1 := h.2 1 (by omega); have a2 := h.2 2 (by omega); have a3 := h.2 3 (by omega); have a4 := h.2 4 (by omega)
 match j, hv with
 | 0, hv => cases hv; exact a0.1
 | 1, hv => cases hv; exact a0.2
 | 2, hv => cases hv; exact a1.1
 | 3, hv => cases hv; exact a1.2
 | 4, hv => cases hv; exact a2.1
 | 5, hv => cases hv; exact a2.2
 | 6, hv => cases hv; exact a3.1
 | 7, hv => cases hv; exact a3.2
 | 8, hv => cases hv; exact a4.1
 | 9, hv => cases hv; exact a4.2
theorem idxBar0 (w : World) : (Instr.index 164 (.agg barCells.toArray) (.int .i64 ((0 : Nat) : Int))).run Tryd.prog w = .ok (.agg #[.int .i32 (barsL.getD 0 (0, 0)).1, .int .i32 (barsL.getD 0 (0, 0)).2]) w := by kernel_rfl
theorem idxBar1 (w : World) : (Instr.index 164 (.agg barCells.toArray) (.int .i64 ((1 : Nat) : Int))).run Tryd.prog w = .ok (.agg #[.int .i32 (barsL.getD 1 (0, 0)).1, .int .i32 (barsL.getD 1 (0, 0)).2]) w := by kernel_rfl
theorem idxBar2 (w : World) : (Instr.index 164 (.agg barCells.toArray) (.int .i64 ((2 : Nat) : Int))).run Tryd.prog w = .ok (.agg #[.int .i32 (barsL.getD 2 (0, 0)).1, .int .i32 (barsL.getD 2 (0, 0)).2]) w := by kernel_rfl
theorem idxBar3 (w : World) : (Instr.index 164 (.agg barCells.toArray) (.int .i64 ((3 : Nat) : Int))).run Tryd.prog w = .ok (.agg #[.int .i32 (barsL.getD 3 (0, 0)).1, .int .i32 (barsL.getD 3 (0, 0)).2]) w := by kernel_rfl
theorem idxBar4 (w : World) : (Instr.index 164 (.agg barCells.toArray) (.int .i64 ((4 : Nat) : Int))).run Tryd.prog w = .ok (.agg #[.int .i32 (barsL.getD 4 (0, 0)).1, .int .i32 (barsL.getD 4 (0, 0)).2]) w := by kernel_rfl
theorem idxBar (w : World) (k : Nat) (hk : k < 5) : (Instr.index 164 (.agg barCells.toArray) (.int .i64 (k : Int))).run Tryd.prog w = .ok (.agg #[.int .i32 (barsL.getD k (0, 0)).1, .int .i32 (barsL.getD k (0, 0)).2]) w := by
 match k, hk with
 | 0, _ => exact idxBar0 w
 | 1, _ => exact idxBar1 w
 | 2, _ => exact idxBar2 w
 | 3, _ => exact idxBar3 w
 | 4, _ => exact idxBar4 w
def freeFrom (c : Int) (k : Nat) : Bool := (barsL.drop k).all fun b => !(decide (b.1 ≤ c) && decide (c ≤ b.2))
theorem free_step (c : Int) (k : Nat) (hk : k < 5) : freeFrom c k = (!(decide ((barsL.getD k (0, 0)).1 ≤ c) && decide (c ≤ (barsL.getD k (0, 0)).2)) && freeFrom c (k + 1)) := by
 have : k = 0 ∨ k = 1 ∨ k = 2 ∨ k = 3 ∨ k = 4 := by omega
 rcases this with rfl | rfl | rfl | rfl | rfl <;> rfl

def LetIs (c : Int) (w : World) (e : Ending) (w' : World) : Prop := e = .returned (.bool (okRune c)) ∧ Below w.heap.size w w'
theorem let_no {c : Int} (h : freeFrom c 0 = false) : okRune c = false := by
 unfold okRune
 have : (barsL.all fun b => !(decide (b.1 ≤ c) && decide (c ≤ b.2))) = false := h
 rw [this]; rfl
theorem let_yes {c : Int} (h : freeFrom c 0 = true) : okRune c = decide (Go.bits .and .i32 c 65535 < 65534) := by
 unfold okRune
 have : (barsL.all fun b => !(decide (b.1 ≤ c) && decide (c ≤ b.2))) = true := h
 rw [this]; rfl

set_option maxHeartbeats 1600000 in
set_option maxRecDepth 100000 in
theorem letIn_any (c : Int) (w : World) (hG : GW w) : Calls Tryd.prog 87 #[.int .i32 c] w (LetIs c w) := by
 have HG := Lib.hid hG
 clear hG
 go_enter Tryd.func87, Tryd.ntmps87
 go_wp2_with (refine wpList_load_cells rfl 164 _ rfl 2 rfl barCells _ (bars_cells HG.out) Tryd.underlying164 rfl (by kernel_rfl) ?_)
 obtain ⟨B, hB⟩ : ∃ B : Array Value, B = barCells.toArray := ⟨_, rfl⟩
 have HI : ∀ (w : World) (k : Nat) (hk : k < 5), (Instr.index 164 (.agg B) (.int .i64 (k : Int))).run Tryd.prog w = .ok (.agg #[.int .i32 (barsL.getD k (0, 0)).1, .int .i32 (barsL.getD k (0, 0)).2]) w := fun w k hk => by rw [hB]; exact idxBar w k hk
 have HIX := Lib.hid HI
 rw [← hB]
 clear hB HI
 go_loopw [6] (fun i wr => ∃ k : Nat, k ≤ 5 ∧ i = .int .i64 (k : Int) ∧ freeFrom c 0 = freeFrom c k ∧ Below w.heap.size w wr) (fun i _ => 5 - (intOf i).toNat)
 case atStart => exact ⟨0, by omega, rfl, rfl, Below.refl _ _⟩
 case round =>
  obtain ⟨k, hk, rfl, hfr, hb⟩ := hrel
  have HF := Lib.hid hfr
  have HB := Lib.hid hb
  clear hfr hb
  by_cases hlt : k < 5
  · obtain ⟨lo, hlo⟩ : ∃ lo, lo = (barsL.getD k (0, 0)).1 := ⟨_, rfl⟩
    obtain ⟨hi, hhi⟩ : ∃ hi, hi = (barsL.getD k (0, 0)).2 := ⟨_, rfl⟩
    have hx : (Instr.index 164 (.agg B) (.int .i64 (k : Int))).run Tryd.prog wr = .ok (.agg #[.int .i32 lo, .int .i32 hi]) wr := by rw [hlo, hhi]; exact HIX.out wr k hlt
    have hst := free_step c k hlt
    rw [← hlo, ← hhi] at hst
    have HS := Lib.hid hst
    have hlti : (k : Int) < 5 := by omega
    clear hst hlo hhi
    by_cases h1 : lo ≤ c
    · by_cases h2 : c ≤ hi
      · have b1 : decide (lo ≤ c) = true := decide_eq_true h1
        have b2 : decide (c ≤ hi) = true := decide_eq_true h2
        go_wp2
        go_ret
        exact ⟨by rw [let_no (by rw [HF.out, HS.out, b1, b2]; rfl)]; rfl, (HB.out.alloc HB.out.size _)⟩
      · have b1 : decide (lo ≤ c) = true := decide_eq_true h1
        have b2 : decide (c ≤ hi) = false := decide_eq_false h2
        have HS2 := Lib.hid (show freeFrom c k = freeFrom c (k + 1) by rw [HS.out, b1, b2]; rfl)
        go_wp2
        go_roundw
        case rel => exact ⟨k + 1, by omega, by go_num, by rw [HF.out, HS2.out], (HB.out.alloc HB.out.size _)⟩
        case measure => simp [intOf]; omega
    · have b1 : decide (lo ≤ c) = false := decide_eq_false h1
      have HS2 := Lib.hid (show freeFrom c k = freeFrom c (k + 1) by rw [HS.out, b1]; rfl)
      go_wp2
      go_roundw
      case rel => exact ⟨k + 1, by omega, by go_num, by rw [HF.out, HS2.out], (HB.out.alloc HB.out.size _)⟩
      case measure => simp [intOf]; omega
  · obtain rfl : k = 5 := by omega
    go_wp2
    go_ret
    exact ⟨by rw [let_yes (by rw [HF.out]; rfl)]; rfl, HB.out⟩
end Go.Proofs.YtjnicgfkogfifaaDoor
end

section
/- utext.Check, by its contract. -/
namespace Go.Proofs.YtjnicgfkogfifaaDoor
open Go.RowKit Go.Proofs.YtjnicgfkogfifaaDoorW.PrintWords

theorem begins_spec (s : ByteArray) (pos : Nat) (c : Int) (h : pos ≤ s.size) : PBg.utext_begins.f s (pos : Int) c = some (okSeq s pos c) := by
 unfold PBg.utext_begins.f okSeq
 by_cases hc : c = 65533
 · rw [if_pos hc, if_pos hc, if_pos (by omega), if_pos (by omega)]
   unfold PBg.strings_HasPrefix.f PBg.stringslite_HasPrefix.f
   have h3 : ((⟨#[239, 191, 189]⟩ : ByteArray).size : Int) = 3 := rfl
   rw [h3, Int.toNat_natCast]
   by_cases hs : 3 ≤ (s.extract pos s.size).size
   · rw [if_pos hs, if_pos (by omega), if_pos (by omega), if_pos (by omega)]
     rfl
   · rw [if_neg hs, if_neg (by omega)]
     rfl
 · rw [if_neg hc, if_neg hc]

theorem run_next_at {P : Program} (W : World) (g : Nat) (s : ByteArray) (pos : Nat) (ty : TypeId) (hg : W.heap[g]? = some (.stringIter s pos)) (h : pos < s.size) :
 (Instr.next (.pointer (some ⟨g, 0, none⟩)) true ty).run P W = .ok (.tuple #[.bool true, .int .i64 pos, .int .i32 (Utf8.decode s pos).1]) { W with heap := W.heap.setIfInBounds g (.stringIter s (pos + (Utf8.decode s pos).2)) } := by
 simp only [Instr.next, getObj, setObj, Sem.run_bind, Sem.run, hg, Result.andThen, h, if_true]
 simp [goInt]
theorem run_next_over {P : Program} (W : World) (g : Nat) (s : ByteArray) (pos : Nat) (ty : TypeId) (hg : W.heap[g]? = some (.stringIter s pos)) (h : ¬ pos < s.size) :
 (Instr.next (.pointer (some ⟨g, 0, none⟩)) true ty).run P W = .ok (.tuple #[.bool false]) W := by
 simp [Instr.next, getObj, Sem.run, hg, h]
theorem iter_set {W : World} {g : Nat} {o o' : Obj} (hg : W.heap[g]? = some o) : ({ W with heap := W.heap.setIfInBounds g o' } : World).heap[g]? = some o' ∧ ∀ k, k ≠ g → ({ W with heap := W.heap.setIfInBounds g o' } : World).heap[k]? = W.heap[k]? := by
 have := (Array.getElem?_eq_some_iff.1 hg).1
 exact ⟨by simp [this], fun k hk => by simp [Ne.symm hk]⟩
theorem below_iter {B : Nat} {w W : World} {g : Nat} {o : Obj} (h : Below B w W) (hB : B ≤ g) : Below B w { W with heap := W.heap.setIfInBounds g o } :=
 ⟨h.os, h.tape, h.output, by simpa using h.size, fun k hk => by
  have : g ≠ k := by omega
  simp only [Array.getElem?_setIfInBounds, this, if_false]
  exact h.block k hk⟩

theorem below_dn {B : Nat} {w W : World} (h : Below B w W) (n : Nat) : Below B w (W.drewN n) := h.trans ⟨rfl, rfl, rfl, Nat.le_refl _, fun _ _ => rfl⟩
def ChkIs (s : ByteArray) (w : World) (e : Ending) (w' : World) : Prop := ∃ r1 r2 r3, chkFrom s s.size 0 0 = (r1, r2, r3) ∧ e = .returned (.tuple #[.int .i64 r1, .int .i64 r2, .int .i64 r3]) ∧ Below w.heap.size w w'

set_option maxHeartbeats 1600000 in
set_option maxRecDepth 100000 in
theorem check_any (s : ByteArray) (w : World) (hG : GW w) : Calls Tryd.prog 71 #[.string s] w (ChkIs s w) := by
 have HG := Lib.hid hG
 clear hG
 go_enter Tryd.func71, Tryd.ntmps71
 go_wp2
 go_loopw [5] (fun n wr => ∃ (pos f : Nat) (m : Int), n = .int .i64 m ∧ chkFrom s f pos m = chkFrom s s.size 0 0 ∧ s.size ≤ pos + f ∧ wr.heap[w.heap.size]? = some (.stringIter s pos) ∧ Below w.heap.size w wr) (fun _ wr => s.size - wr.iterPos w.heap.size)
 case atStart => exact ⟨0, s.size, 0, rfl, rfl, by omega, World.iter_heap _ _ _, (Below.refl _ _).alloc (Nat.le_refl _) _⟩
 case round =>
  obtain ⟨pos, f, m, rfl, hc, hf, hg, hb⟩ := hrel
  have hmeas : wr.iterPos w.heap.size = pos := by simp [World.iterPos, hg]
  have HM := Lib.hid hmeas
  have HC := Lib.hid hc
  have HB := Lib.hid hb
  have HGW := Lib.hid (HG.out.below hb)
  clear hc hb hmeas
  by_cases hp : pos < s.size
  · have hnx : ∀ ty, (Instr.next (.pointer (some ⟨w.heap.size, 0, none⟩)) true ty).run Tryd.prog wr = _ := fun ty => run_next_at wr w.heap.size s pos ty hg hp
    obtain ⟨W2, hW2⟩ : ∃ W2 : World, W2 = { wr with heap := wr.heap.setIfInBounds w.heap.size (.stringIter s (pos + (Utf8.decode s pos).2)) } := ⟨_, rfl⟩
    rw [← hW2] at hnx
    have hi2 := (iter_set (o' := .stringIter s (pos + (Utf8.decode s pos).2)) hg).1
    have hb2 := below_iter (o := .stringIter s (pos + (Utf8.decode s pos).2)) HB.out (Nat.le_refl _)
    rw [← hW2] at hi2 hb2
    have HI2 := Lib.hid hi2
    have HB2 := Lib.hid hb2
    have HG2 := Lib.hid (HG.out.below hb2)
    have hwd := width_pos s pos hp
    obtain ⟨F, rfl⟩ : ∃ F, f = F + 1 := ⟨f - 1, by omega⟩
    have hst : chkFrom s (F + 1) pos m = if okSeq s pos (Utf8.decode s pos).1 then (if okRune (Utf8.decode s pos).1 then chkFrom s F (pos + (Utf8.decode s pos).2) (wrap64 (m + 1)) else (0, pos, 11)) else (0, pos, 10) := by rw [chkFrom, if_pos hp]
    obtain ⟨c, hcc⟩ : ∃ c : Nat, c = (Utf8.decode s pos).1 := ⟨_, rfl⟩
    obtain ⟨n, hnn⟩ : ∃ n : Nat, n = (Utf8.decode s pos).2 := ⟨_, rfl⟩
    rw [← hcc, ← hnn] at hst
    rw [← hcc] at hnx
    rw [← hnn] at hwd HI2
    have HST := Lib.hid hst
    have HSQ := Lib.hid (begins_spec s pos (c : Int) (by omega))
    have HLT := Lib.hid (fun W (h : GW W) => letIn_any (c : Int) W h)
    clear hst hcc hW2 hi2 hb2 hg hnn
    obtain ⟨b1, hb1⟩ : ∃ b, b = okSeq s pos (c : Int) := ⟨_, rfl⟩
    obtain ⟨b2, hb2⟩ : ∃ b, b = okRune (c : Int) := ⟨_, rfl⟩
    rw [← hb1] at HSQ HST
    rw [← hb2] at HST
    have HB1 := Lib.hid hb1
    have HBB2 := Lib.hid hb2
    clear hb1 hb2
    cases b1 with
    | false =>
     go_wp2_with (go_at_call 86; refine (PBg.utext_begins.calls _ _ _ false _ HSQ.out).mono ?_; rintro e w' ⟨rfl, ⟨nd, rfl⟩⟩)
     refine bodyPost_ret (v := .tuple #[.int .i64 0, .int .i64 (pos : Int), .int .i64 10]) (by simp [results, Tryd.results71, go_sem]) rfl ⟨0, pos, 10, by rw [← HC.out, HST.out]; rfl, rfl, below_dn HB2.out _⟩
    | true =>
     cases b2 with
     | false =>
      go_wp2_with (first | (go_at_call 86; refine (PBg.utext_begins.calls _ _ _ true _ HSQ.out).mono ?_; rintro e w' ⟨rfl, ⟨nd, rfl⟩⟩) | (go_at_call 87; refine (HLT.out _ (by first | exact HG2.out | exact GW.drewN HG2.out _)).mono ?_; rintro e w3 ⟨rfl, hb3⟩; have HB3 := Lib.hid hb3; clear hb3; rw [← HBB2.out]))
      refine bodyPost_ret (v := .tuple #[.int .i64 0, .int .i64 (pos : Int), .int .i64 11]) (by simp [results, Tryd.results71, go_sem]) rfl ⟨0, pos, 11, by rw [← HC.out, HST.out]; rfl, rfl, (below_dn HB2.out _).trans (HB3.out.mono HB2.out.size)⟩
     | true =>
      go_wp2_with (first | (go_at_call 86; refine (PBg.utext_begins.calls _ _ _ true _ HSQ.out).mono ?_; rintro e w' ⟨rfl, ⟨nd, rfl⟩⟩) | (go_at_call 87; refine (HLT.out _ (by first | exact HG2.out | exact GW.drewN HG2.out _)).mono ?_; rintro e w3 ⟨rfl, hb3⟩; have HB3 := Lib.hid hb3; clear hb3; rw [← HBB2.out]))
      have h3 : w3.heap[w.heap.size]? = some (.stringIter s (pos + n)) := (HB3.out.block _ (Array.getElem?_eq_some_iff.1 HI2.out).1).trans HI2.out
      have H3 := Lib.hid h3
      clear h3
      go_roundw
      case rel => exact ⟨pos + n, F, _, rfl, by rw [← HC.out, HST.out]; rfl, by omega, H3.out, (below_dn HB2.out _).trans (HB3.out.mono HB2.out.size)⟩
      case measure =>
       have : w3.iterPos w.heap.size = pos + n := by simp [World.iterPos, H3.out]
       rw [this, HM.out]
       omega
  · have hnx : ∀ ty, (Instr.next (.pointer (some ⟨w.heap.size, 0, none⟩)) true ty).run Tryd.prog wr = _ := fun ty => run_next_over wr w.heap.size s pos ty hg hp
    go_wp2
    refine bodyPost_ret (v := .tuple #[.int .i64 m, .int .i64 0, .int .i64 0]) (by simp [results, Tryd.results71, go_sem]) rfl ⟨m, 0, 0, by rw [← HC.out, chk_end s f pos m hp], rfl, HB.out⟩

theorem utext_Check.calls (a0 : ByteArray) (r1 : Int) (r2 : Int) (r3 : Int) (w : World) (hG : GW w) (h : utext_Check.f a0 = some (r1, r2, r3)) :
 Calls Tryd.prog 71 #[.string a0] w fun e w' => e = .returned (.tuple #[.int .i64 r1, .int .i64 r2, .int .i64 r3]) ∧ Below w.heap.size w w' := by
 refine (check_any a0 w hG).mono ?_
 rintro e w' ⟨q1, q2, q3, hq, rfl, hb⟩
 unfold utext_Check.f at h
 rw [hq] at h
 cases h
 exact ⟨rfl, hb⟩
end Go.Proofs.YtjnicgfkogfifaaDoor
end
