/- The step from a walk to the row of a law under the bound, whose row lists package-level variables. For any program; and what every row of this seat asks of the loaded program. -/
import Derived.Deep.DeepHandedRow
import Derived.Lib.LaidTab
import Derived.Test.YtloccjkcmlkifaaDoorLaw
import Derived.Test.YtloccjkcmlkifaaDoorRedU
import Derived.Test.YtloccjkcmlkifaaDoorTables
import Derived.Test.YtloccjkcmlkifaaDoorCards
import Derived.Test.YtloccjkcmlkifaaDoorTie
namespace Go.Proofs.YtloccjkcmlkifaaDoor
open Go.ChangeShapes Go.WideShapes Go.ChangeAt Go.RowKit

theorem law_lifted_upto {C : Checked} {os : Os} {f : FuncId} {fn : Func} {s : ChangeSpec} {tb : TypeId} {H : Type} {enc : TypeId × Value → H} {laid : List (String × DataW Unit)} {F : Stop.Interp} {up : OpenSpec}
    (hup : up.vars = s.vars ∧ up.bare.plain.varTypes C.prog = s.plain.varTypes C.prog ∧ ∀ W args v W', s.post enc C.prog fn false true false false W args v W' → (up.at F).post enc C.prog fn false true false false W args v W')
    (hcd : up.cond = some Rows.uptoSmall)
    (own : ownKnob C.prog.godebug = none) (started : os.Started) (noInit : C.prog.inits.idxOf? f = none) (hfn : C.prog.funcs[f]? = some fn)
    (witness : ∃ (w : World) (tape : Tape) (i : Input), w.os = os ∧ (w.forCall tape i).Shaped C.prog ∧ i.vars = [] ∧ Input.okWide C.prog (w.forCall tape i) .any w.heap.size f i ∧
      up.preRow enc C.prog fn [] false laid (w.forCall tape i).memory i.args ∧ ({} : Assume).holds C.prog (lone (Frame.enter C.prog f i.args .normal) [] (w.forCall tape i)))
    (hvars : s.vars = []) (hl : laidOutB C.prog = true) (hts' : (fn.params.toList.all fun t => C.prog.readableRec t && decide (t < C.prog.types.size)) = true) (hr : fn.resultTypes = #[tb]) (hub : C.prog.underlying tb = some .bool)
    (hsp : ∀ ds : List (DataW H), ds.length = fn.params.toList.length → s.fn H ds = { results := [.lit (.bool true)], args := ds })
    (walk : ∀ (W : World) (base : Nat) (args : Array Value), laidMetH C.prog laid W → args.size = fn.params.size →
      (∀ (j : Nat) t v, fn.params[j]? = some t → args[j]? = some v → Value.okWide C.prog W .any base t v) →
      (∀ (j : Nat) t v, fn.params[j]? = some t → args[j]? = some v → RedU enc C.prog W t v.cells.toList) → Calls C.prog f args W (Lawful W)) :
    ReturnsInHanded {} C os f .any (up.preRow enc C.prog fn [] false laid) ((up.at F).post enc C.prog fn false true false false) := by
  have hts : ∀ t ∈ fn.params.toList, C.prog.readableRec t = true ∧ t < C.prog.types.size := fun t ht => by simpa using List.all_eq_true.mp hts' t ht
  refine returnsInHanded_of_row own started noInit hfn witness ?_
  intro W base args ds gs before hval hW _ hcond hsz hL _ _
  rw [hup.1] at hW
  have hW' := hW
  obtain ⟨p, q, hA, hV, rfl, hfz, hnd⟩ := hW
  rw [hvars] at hV
  obtain ⟨rfl, rfl⟩ := trodVars_none hV
  simp only [List.append_nil] at hcond
  obtain ⟨hl1, hl2⟩ := redU_all _ _ _ _ hA (bulks.bound (hcond _ hcd))
  refine (walk W base args hL (by simpa using hl1) hval (fun j t v ht hv => hl2 j t v (by simpa using ht) (by simpa using hv))).mono fun e W' ⟨he, hb⟩ => ?_
  exact ⟨_, he, hup.2.2 _ _ _ _ (law_post hvars hl hts hr hub hsp hW' hb)⟩

theorem Tryd.own : ownKnob Tryd.prog.godebug = none := by kernel_rfl
theorem Tryd.laidOut : laidOutB Tryd.prog = true := by kernel_rfl
end Go.Proofs.YtloccjkcmlkifaaDoor

