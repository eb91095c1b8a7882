import Derived.Test.YtloccjkcmlkifaaDoorLiftU
import Derived.Test.YtloccjkcmlkifaaDoorRedU
import Derived.Test.YtloccjkcmlkifaaDoorXCaretsAllCar
namespace Go.Proofs.YtloccjkcmlkifaaDoor
open Go.ChangeShapes Go.WideShapes Go.ChangeAt Go.RowKit

theorem bars_shape {H : Type} {enc : TypeId × Value → H} {P : Program} {w : World} {base : Nat} {sp : Nat → Bool} {held : Bool} {fuel : Nat} {t e : TypeId} {n : Nat} {f0 f1 : Field} {cs : List Value} {zs : List (Int × Int)} {p : List MemPlace}
    (ht : P.underlying t = some (.array n e)) (he : P.underlying e = some (.struct #[f0, f1])) (hi0 : P.underlying f0.type = some (.int .i32)) (hi1 : P.underlying f1.type = some (.int .i32))
    (ho0 : f0.offset = 0) (ho1 : f1.offset = 1) (c0 : P.cellsOf f0.type = 1) (c1 : P.cellsOf f1.type = 1) (ce : P.cellsOf e = 2) (hn : n = zs.length)
    (h : DataW.trod enc P w base sp held fuel t cs = some (.agg (zs.map fun z => .agg [.lit (.int .i32 z.1), .lit (.int .i32 z.2)]), p)) :
    ∀ j, j < n → cs[j * 2]? = some (.int .i32 (zs.getD j (0, 0)).1) ∧ cs[j * 2 + 1]? = some (.int .i32 (zs.getD j (0, 0)).2) := by
  obtain ⟨xs, m, _, hx, hl, hlen, hf⟩ := DataW.trod_array ht h
  simp only [Prod.mk.injEq, DataW.agg.injEq] at hx
  intro j hj
  have hj2 : j < xs.length := by omega
  have h1 := hf j hj
  rw [List.getElem?_eq_getElem hj2] at h1
  obtain ⟨y0, y1, m2, hy, hl2, t0, t1⟩ := trod_struct2 he h1
  rw [ho0, c0] at t0
  rw [ho1, c1] at t1
  obtain ⟨a, ha, rfl, _⟩ := DataW.trod_int hi0 t0
  obtain ⟨b, hb, rfl, _⟩ := DataW.trod_int hi1 t1
  have hz : (xs.map (·.1))[j]? = (zs.map fun z => (DataW.agg [.lit (.int .i32 z.1), .lit (.int .i32 z.2)] : DataW H))[j]? := by rw [hx.1]
  rw [List.getElem?_map, List.getElem?_map, List.getElem?_eq_getElem hj2, List.getElem?_eq_getElem (by omega : j < zs.length), hy] at hz
  simp only [Option.map_some, Option.some.injEq, DataW.agg.injEq, List.cons.injEq, DataW.lit.injEq, Lit.int.injEq, true_and, and_true] at hz
  rw [ce] at ha hb
  rw [List.getD_eq_getElem?_getD, List.getElem?_eq_getElem (by omega : j < zs.length), Option.getD_some, ← hz.1, ← hz.2]
  have hq : ∀ (l : List Value) (u v : Value), ((l.take 2).drop 0).take 1 = [u] → ((l.take 2).drop 1).take 1 = [v] → l[0]? = some u ∧ l[1]? = some v := by
    intro l u v h0 h1
    match l with
    | [] => simp at h0
    | [x] => simp at h1
    | x :: y :: r => simp at h0 h1; simp [h0, h1]
  have := hq _ _ _ ha hb
  rw [List.getElem?_drop, List.getElem?_drop] at this
  exact this

theorem bars_of_met {W : World} (h : laidMet Tryd.prog [("redraft/utext.bars", Rows.laid_redraft_utext_bars)] W) : GW W := by
  obtain ⟨ps, ⟨g, t, cs, fuel, p, q, hg, ht, hvar, hd, _, _⟩, _⟩ := h
  obtain rfl : 1 = g := Option.some.inj ((show Tryd.prog.globalNamed "redraft/utext.bars" = some 1 by kernel_rfl).symm.trans hg)
  obtain rfl : 144 = t := Option.some.inj ((show (Tryd.prog.globals[1]?).map (·.type) = some 144 by kernel_rfl).symm.trans ht)
  have hs := bars_shape (zs := barsL) Tryd.underlying144 Tryd.underlying143 Tryd.underlying21 Tryd.underlying21 rfl rfl (by kernel_rfl) (by kernel_rfl) (by kernel_rfl) rfl hd
  have hc : ∀ o, W.cell? ⟨1, o, none⟩ = cs[o]? := fun o => World.var?_cell hg hvar o
  have hcell : ∀ j, j < 5 → W.cell? ⟨1, j * 2, none⟩ = some (.int .i32 (barsL.getD j (0, 0)).1) ∧ W.cell? ⟨1, j * 2 + 1, none⟩ = some (.int .i32 (barsL.getD j (0, 0)).2) := fun j hj => by
    obtain ⟨e0, e1⟩ := hs j hj
    rw [hc, hc, ← Array.getElem?_toList, ← Array.getElem?_toList]
    exact ⟨e0, e1⟩
  exact ⟨World.block_lt_of_cell? W ⟨1, 0, none⟩ (hcell 0 (by decide)).1, hcell⟩

noncomputable def laidWorld (os : Os) : World :=
  let w0 := World.holding Tryd.prog os ⟨#[], #[], []⟩
  { w0 with heap := w0.heap.modify 1 fun
      | .cells _ t frozen => .cells #[.int .i32 0, .int .i32 8, .int .i32 11, .int .i32 31, .int .i32 127, .int .i32 159, .int .i32 64976, .int .i32 65007, .int .i32 65279, .int .i32 65279] t frozen
      | o => o }
end Go.Proofs.YtloccjkcmlkifaaDoor

namespace Go.Proofs.YtloccjkcmlkifaaDoor
open Go.ChangeShapes Go.WideShapes Go.ChangeAt Go.RowKit Go.Proofs.YtloccjkcmlkifaaDoorW.PrintWords Go.Proofs.YtloccjkcmlkifaaDoor.PCar

section
variable {H : Type} {enc : TypeId × Value → H} {w : World} {cs : List Value}
theorem c3 : Tryd.prog.cellsOf 3 = 1 := by kernel_rfl
theorem c4 : Tryd.prog.cellsOf 4 = 1 := by kernel_rfl
theorem c9 : Tryd.prog.cellsOf 9 = 1 := by kernel_rfl
theorem c29 : Tryd.prog.cellsOf 29 = 1 := by kernel_rfl
theorem c35 : Tryd.prog.cellsOf 35 = 2 := by kernel_rfl
theorem c36 : Tryd.prog.cellsOf 36 = 1 := by kernel_rfl
theorem c38 : Tryd.prog.cellsOf 38 = 3 := by kernel_rfl
theorem c39 : Tryd.prog.cellsOf 39 = 1 := by kernel_rfl
theorem c41 : Tryd.prog.cellsOf 41 = 9 := by kernel_rfl
theorem c94 : Tryd.prog.cellsOf 94 = 2 := by kernel_rfl
theorem c100 : Tryd.prog.cellsOf 100 = 24 := by kernel_rfl

set_option maxRecDepth 100000 in
theorem redU_range (h : RedU enc Tryd.prog w 94 cs) : ∃ x : S94, k94.K w x cs ∧ True := by
  obtain ⟨hl, hr⟩ := redU_struct Tryd.underlying94 h
  rw [c94] at hl
  match cs, hl with
  | [x, y], _ =>
    obtain ⟨n0, e0, _⟩ := redU_int Tryd.underlying3 (hr 0 _ rfl)
    obtain ⟨n1, e1, _⟩ := redU_int Tryd.underlying3 (hr 1 _ rfl)
    simp [c3] at e0 e1
    subst e0 e1
    exact ⟨⟨n0, n1⟩, k94_mk w ⟨n0, n1⟩, trivial⟩
set_option maxRecDepth 100000 in
theorem redU_id (h : RedU enc Tryd.prog w 35 cs) : ∃ a b : Int, cs = [.int .i64 a, .int .i64 b] := by
  obtain ⟨hl, hr⟩ := redU_array Tryd.underlying35 h
  rw [c35] at hl
  match cs, hl with
  | [x, y], _ =>
    obtain ⟨n0, e0, _⟩ := redU_int Tryd.underlying3 (hr 0 (by decide))
    obtain ⟨n1, e1, _⟩ := redU_int Tryd.underlying3 (hr 1 (by decide))
    simp [c3] at e0 e1
    subst e0 e1
    exact ⟨n0, n1, rfl⟩
set_option maxRecDepth 100000 in
theorem redU_op (h : RedU enc Tryd.prog w 41 cs) : ∃ (o : S41) (A : Option Addr) (c : Nat), cs = [.int .i64 o.f0.f0.f0, .int .i64 o.f0.f0.f1, .int .i64 o.f0.f1, .int .i64 o.f1, .string o.f2, .slice A o.f3.length c, .int .i64 o.f4.f0, .int .i64 o.f4.f1, .bool o.f5] ∧ o.f3.length ≤ c ∧ k94.C w A o.f3.length o.f3 ∧ fineOp o := by
  obtain ⟨hl, hr⟩ := redU_struct Tryd.underlying41 h
  rw [c41] at hl
  match cs, hl with
  | [x0, x1, x2, x3, x4, x5, x6, x7, x8], _ =>
    obtain ⟨_, hh⟩ := redU_struct Tryd.underlying38 (hr 0 _ rfl)
    obtain ⟨i0, i1, e0⟩ := redU_id (hh 0 _ rfl)
    obtain ⟨n2, e2, _⟩ := redU_int Tryd.underlying36 (hh 1 _ rfl)
    obtain ⟨n3, e3, _⟩ := redU_int Tryd.underlying3 (hr 1 _ rfl)
    obtain ⟨s, e4, hs⟩ := redU_string Tryd.underlying9 (hr 2 _ rfl)
    obtain ⟨A, c, l, e5, hlc, hc, hC, _⟩ := redU_row k94 z94 (fun _ => True) Tryd.underlying39 c94 (by decide) (fun _ h => redU_range h) (hr 3 _ rfl)
    obtain ⟨t0, t1, e6⟩ := redU_id (hr 4 _ rfl)
    obtain ⟨b, e8⟩ := redU_bool Tryd.underlying4 (hr 5 _ rfl)
    simp [c38, c35, c36, c3, c9, c39, c4] at e0 e2 e3 e4 e5 e6 e8
    obtain ⟨rfl, rfl⟩ := e0
    obtain ⟨rfl, rfl⟩ := e6
    subst e2 e3 e4 e5 e8
    exact ⟨⟨⟨⟨i0, i1⟩, n2⟩, n3, s, l, ⟨t0, t1⟩, b⟩, A, c, rfl, hlc, hC, hs, by show l.length ≤ _; omega⟩
theorem redU_opK (h : RedU enc Tryd.prog w 41 cs) : ∃ o : S41, k41.K w o cs ∧ fineOp o := by
  obtain ⟨o, A, c, rfl, h1, h2, h3⟩ := redU_op h
  exact ⟨o, k41_mk w o h1 h2, h3⟩
set_option maxRecDepth 100000 in
theorem redU_step (h : RedU enc Tryd.prog w 100 cs) : ∃ s : S100, k100.K w s cs ∧ fineStep s := by
  obtain ⟨hl, hr⟩ := redU_struct Tryd.underlying100 h
  rw [c100] at hl
  match cs, hl with
  | [x0, x1, x2, x3, x4, x5, x6, x7, x8, x9, x10, x11, x12, x13, x14, x15, x16, x17, x18, x19, x20, x21, x22, x23], _ =>
    obtain ⟨n0, e0, _⟩ := redU_int Tryd.underlying3 (hr 0 _ rfl)
    obtain ⟨oa, A1, k1, e1, a1, b1, f1⟩ := redU_op (hr 1 _ rfl)
    obtain ⟨ob, A2, k2, e2, a2, b2, f2⟩ := redU_op (hr 2 _ rfl)
    obtain ⟨A3, k3, l3, e3, a3, q3, b3, f3⟩ := redU_row k41 z41 fineOp Tryd.underlying29 c41 (by decide) (fun _ h => redU_opK h) (hr 3 _ rfl)
    obtain ⟨A4, k4, l4, e4, a4, q4, b4, f4⟩ := redU_row k41 z41 fineOp Tryd.underlying29 c41 (by decide) (fun _ h => redU_opK h) (hr 4 _ rfl)
    obtain ⟨b, e5⟩ := redU_bool Tryd.underlying4 (hr 5 _ rfl)
    obtain ⟨n6, e6, _⟩ := redU_int Tryd.underlying3 (hr 6 _ rfl)
    obtain ⟨n7, e7, _⟩ := redU_int Tryd.underlying3 (hr 7 _ rfl)
    simp [c41, c29, c3, c4] at e0 e1 e2 e3 e4 e5 e6 e7
    obtain ⟨rfl, rfl, rfl, rfl, rfl, rfl, rfl, rfl, rfl⟩ := e1
    obtain ⟨rfl, rfl, rfl, rfl, rfl, rfl, rfl, rfl, rfl⟩ := e2
    subst e0 e3 e4 e5 e6 e7
    exact ⟨⟨n0, oa, ob, l3, l4, b, n6, n7⟩, k100_mk w ⟨n0, oa, ob, l3, l4, b, n6, n7⟩ a1 b1 a2 b2 a3 b3 a4 b4, f1, f2, ⟨by show l3.length ≤ _; omega, f3⟩, ⟨by show l4.length ≤ _; omega, f4⟩⟩
theorem redU_script (h : RedU enc Tryd.prog w 81 cs) : ∃ (A : Option Addr) (c : Nat) (l : List S100), cs = [.slice A l.length c] ∧ l.length ≤ c ∧ l.length ≤ 1048576 ∧ k100.C w A l.length l ∧ ∀ s ∈ l, fineStep s := by
  obtain ⟨A, c, l, e, h1, h2, h3, h4⟩ := redU_row k100 z100 fineStep Tryd.underlying81 c100 (by decide) (fun _ h => redU_step h) h
  exact ⟨A, c, l, e, h1, by omega, h3, h4⟩
end
end Go.Proofs.YtloccjkcmlkifaaDoor

namespace Go.Proofs.YtloccjkcmlkifaaDoor
open Go.ChangeShapes Go.WideShapes Go.ChangeAt Go.RowKit Go.Proofs.YtloccjkcmlkifaaDoorW.PrintWords Go.Proofs.YtloccjkcmlkifaaDoor.PCar

set_option maxRecDepth 100000 in
theorem XformCarets_opened {H : Type} (enc : TypeId × Value → H) (W : World) (base : Nat) (args : Array Value) (hG : GW W) (hlen : args.size = Tryd.f16.params.size)
    (hval : ∀ (j : Nat) t v, Tryd.f16.params[j]? = some t → args[j]? = some v → Value.okWide Tryd.prog W .any base t v)
    (hred : ∀ (j : Nat) t v, Tryd.f16.params[j]? = some t → args[j]? = some v → RedU enc Tryd.prog W t v.cells.toList) :
    Calls Tryd.prog 16 args W (Lawful W) := by
  rw [show Tryd.f16.params = #[81] by kernel_rfl] at hlen hval hred
  obtain ⟨v0, rfl⟩ := args1 (by simpa using hlen)
  obtain ⟨a0, n0, k0, rfl⟩ := okWide_slice Tryd.underlying81 (hval 0 81 v0 rfl rfl)
  obtain ⟨A1, c1, l, hx, h1, h2, h3, h4⟩ := redU_script (hred 0 81 _ rfl rfl)
  simp [Value.cells] at hx
  obtain ⟨rfl, rfl, rfl⟩ := hx
  obtain ⟨k, hk⟩ := carets_pure l h2 h4
  exact (redraftlaw05_XformCarets.calls k a0 k0 l true W h3 h1 hG hk).mono fun e W' ⟨he, hb⟩ => ⟨he, hb⟩

theorem XformCarets_met (os : Os) : laidMet Tryd.prog Rows.xformCaretsUptoRow.laid ((laidWorld os).forCall (fun _ _ => 0) ⟨#[], #[.slice none 0 0], []⟩).memory :=
  laidMet_of_run' 8 (by kernel_rfl) (by kernel_rfl)
theorem XformCarets_reads (os : Os) {H : Type} (enc : TypeId × Value → H) : ∃ places, DataW.whole enc Tryd.prog ((laidWorld os).forCall (fun _ _ => 0) ⟨#[], #[.slice none 0 0], []⟩).memory Tryd.f16.params.toList Rows.xformCaretsSpec.vars false #[.slice none 0 0].toList 8 = some ([.nil], [], places) :=
  ⟨[], by kernel_rfl⟩

set_option maxRecDepth 100000 in
theorem XformCarets_lifted (os : Os) (started : os.Started) (H : Type) (enc : TypeId × Value → H) (F : Stop.Interp) :
    ReturnsInHanded {} Tryd.checked os 16 .any ((Rows.OpenSpec.upto Rows.xformCaretsSpec).preRow enc Tryd.prog Tryd.f16 [] false Rows.xformCaretsUptoRow.laid) (((Rows.OpenSpec.upto Rows.xformCaretsSpec).at F).post enc Tryd.prog Tryd.f16 false true false false) := by
  obtain ⟨places, hx⟩ := XformCarets_reads os enc
  exact law_lifted_upto (C := Tryd.checked) (s := Rows.xformCaretsSpec) (up := (Rows.OpenSpec.upto Rows.xformCaretsSpec)) (tb := 4) ⟨rfl, rfl, fun _ _ _ _ h => h⟩ rfl Tryd.own started (by kernel_rfl) Tryd.func16
    (witness_row_at (enc := enc) (C := Tryd.checked) false (laidWorld os) #[.slice none 0 0] rfl (by kernel_rfl) (by kernel_rfl) (by kernel_rfl)
      (OpenSpec.preRow_of_cond 8 hx (by kernel_rfl) (fun k hk => by cases hk; kernel_rfl) (by kernel_rfl) (XformCarets_met os)))
    rfl Tryd.laidOut (by kernel_rfl) (by kernel_rfl) Tryd.underlying4 (by intro ds h; match ds, h with | [_], _ => rfl)
    (fun W base args hL hlen hval hred => XformCarets_opened enc W base args (bars_of_met hL) hlen hval hred)

theorem XformCarets_said : Rows.XformCaretsUptoSaid :=
  OpenClaim.holds_of_cond 16 Tryd.f16 rfl rfl rfl rfl rfl rfl rfl ⟨rfl, rfl, rfl, rfl, rfl⟩ rfl rfl rfl rfl rfl (by kernel_rfl) Tryd.func16 (by kernel_rfl)
    (of_decide_eq_true (by kernel_rfl)) (by unfold Func.isWrapper; rw [if_neg (of_decide_eq_false (by kernel_rfl))]; exact ⟨rfl, rfl⟩)
    (fun os started H enc _ F => by rw [OpenClaim.pre_eq_preRow]; exact XformCarets_lifted os started H enc F)

theorem XformCarets_plain (f : FuncId) (fn : Func) (hf : Tryd.pinned.checked.prog.funcNamed Rows.xformCaretsUptoRow.func = some f) (hfn : Tryd.pinned.checked.prog.funcs[f]? = some fn) :
    false = Tryd.pinned.checked.prog.looks [] ∧ ∀ (j : Nat) t, fn.params[j]? = some t → Tryd.pinned.checked.prog.wantsStandIn t = false := by
  obtain rfl : f = 16 := Option.some.inj ((show Tryd.prog.funcNamed Rows.xformCaretsUptoRow.func = some 16 by kernel_rfl).symm.trans hf) |>.symm
  obtain rfl : fn = Tryd.f16 := (Option.some.inj (Tryd.func16.symm.trans hfn)).symm
  refine ⟨by kernel_rfl, fun j t ht => ?_⟩
  have hall : (Tryd.f16.params.toList.all fun t => Tryd.prog.wantsStandIn t == false) = true := by kernel_rfl
  have hm : t ∈ Tryd.f16.params.toList := by
    have := Array.mem_of_getElem? ht
    exact Array.mem_toList_iff.2 this
  have := List.all_eq_true.1 hall t hm
  exact eq_of_beq this

theorem XformCarets_card : Rows.XformCaretsUptoCardSaid :=
  Claim7.holds_tied_plain_at .later [] _ _ _ _ XformCarets_said (fun _ h => by cases h) (by kernel_rfl) (fun _ h => by cases h) xformCaretsUpto_row_tie rfl ⟨rfl, rfl⟩ (by kernel_rfl) rfl XformCarets_plain (by kernel_rfl)
#print axioms XformCarets_card
end Go.Proofs.YtloccjkcmlkifaaDoor

