/- utext.letIn, utext.Check, by their contracts. -/
import Derived.Test.YtloccjkcmlkifaaDoorChkSpec
import Derived.Test.YtloccjkcmlkifaaDoorPBgx1
import Derived.Lib.Hide
import Derived.Deep.LoopGhost
import Derived.IntWalk
namespace Go.Proofs.YtloccjkcmlkifaaDoor
open Go.RowKit Go.Proofs.YtloccjkcmlkifaaDoorW.PrintWords

theorem run_load_cells {P : Program} (w : World) (g : Nat) (ty : TypeId) (cs : List Value) (d : TypeDesc) (hc : ∀ j v, cs[j]? = some v → w.cell? ⟨g, j, none⟩ = some v)
    (hu : P.underlying ty = some d) (hd : (match d with | .struct _ | .array _ _ => true | _ => false) = true) (hi : (P.info? ty).map (·.size) = some cs.length) :
    (loadVar ty ⟨g, 0, none⟩).run P w = .ok (.agg cs.toArray) w := by
  have hl : (loadCells ⟨g, 0, none⟩ cs.length).run P w = .ok cs.toArray w :=
    run_loadCells_list (P := P) w ⟨g, 0, none⟩ cs (fun j v hv => by
      have hadd : (⟨g, 0, none⟩ : Addr).add j = ⟨g, j, none⟩ := by unfold Addr.add; split <;> simp_all
      rw [hadd]
      exact hc j v hv)
  cases hq : P.info? ty with
  | none => simp [hq] at hi
  | some i =>
    have hs : i.size = cs.length := by simpa [hq] using hi
    have hagg : (isAgg ty).run P w = .ok true w := by
      unfold isAgg
      rw [Sem.run_bind, run_underlying hu w]
      cases d <;> simp_all
    simp [loadVar, Sem.run_bind, hagg, sizeOf, typeInfo, hq, hs, hl]
theorem wpList_load_cells {P : Program} {ops : Array Oper} {rest : List Oper} {o : Oper} {a : Act} {w : World} {Q : Exit → Act → World → Prop} (hgd : o.guard = none) (ty : TypeId) (x : Operand) (ho : o.op = .load ty x)
    (g : Nat) (hx : a.eval x = .pointer (some ⟨g, 0, none⟩)) (cs : List Value) (d : TypeDesc) (hc : ∀ j v, cs[j]? = some v → w.cell? ⟨g, j, none⟩ = some v)
    (hu : P.underlying ty = some d) (hd : (match d with | .struct _ | .array _ _ => true | _ => false) = true) (hi : (P.info? ty).map (·.size) = some cs.length)
    (h : wpList P ops Q rest (a.put o.dst (.agg cs.toArray)) w) : wpList P ops Q (o :: rest) a w := by
  refine wpList_plain hgd fun _ hK => ?_
  unfold Oper.wp execOp
  simp only [ho, hx, Instr.loadAt, Instr.sureAddr, Sem.run_bind, Sem.run_pure, Result.andThen_ok, run_load_cells w g ty cs d hc hu hd hi]
  exact hK _ _ h

def barCells : List Value := [.int .i32 0, .int .i32 8, .int .i32 11, .int .i32 31, .int .i32 127, .int .i32 159, .int .i32 64976, .int .i32 65007, .int .i32 65279, .int .i32 65279]
theorem bars_cells {w : World} (h : GW w) : ∀ j v, barCells[j]? = some v → w.cell? ⟨1, j, none⟩ = some v := by
  intro j v hv
  have a0 := h.2 0 (by omega); have a1 := h.2 1 (by omega); have a2 := h.2 2 (by omega); have a3 := h.2 3 (by omega); have a4 := h.2 4 (by omega)
  match j, hv with
  | 0, hv => cases hv; exact a0.1
  | 1, hv => cases hv; exact a0.2
  | 2, hv => cases hv; exact a1.1
  | 3, hv => cases hv; exact a1.2
  | 4, hv => cases hv; exact a2.1
  | 5, hv => cases hv; exact a2.2
  | 6, hv => cases hv; exact a3.1
  | 7, hv => cases hv; exact a3.2
  | 8, hv => cases hv; exact a4.1
  | 9, hv => cases hv; exact a4.2
theorem idxBar0 (w : World) : (Instr.index 144 (.agg barCells.toArray) (.int .i64 ((0 : Nat) : Int))).run Tryd.prog w = .ok (.agg #[.int .i32 (barsL.getD 0 (0, 0)).1, .int .i32 (barsL.getD 0 (0, 0)).2]) w := by kernel_rfl
theorem idxBar1 (w : World) : (Instr.index 144 (.agg barCells.toArray) (.int .i64 ((1 : Nat) : Int))).run Tryd.prog w = .ok (.agg #[.int .i32 (barsL.getD 1 (0, 0)).1, .int .i32 (barsL.getD 1 (0, 0)).2]) w := by kernel_rfl
theorem idxBar2 (w : World) : (Instr.index 144 (.agg barCells.toArray) (.int .i64 ((2 : Nat) : Int))).run Tryd.prog w = .ok (.agg #[.int .i32 (barsL.getD 2 (0, 0)).1, .int .i32 (barsL.getD 2 (0, 0)).2]) w := by kernel_rfl
theorem idxBar3 (w : World) : (Instr.index 144 (.agg barCells.toArray) (.int .i64 ((3 : Nat) : Int))).run Tryd.prog w = .ok (.agg #[.int .i32 (barsL.getD 3 (0, 0)).1, .int .i32 (barsL.getD 3 (0, 0)).2]) w := by kernel_rfl
theorem idxBar4 (w : World) : (Instr.index 144 (.agg barCells.toArray) (.int .i64 ((4 : Nat) : Int))).run Tryd.prog w = .ok (.agg #[.int .i32 (barsL.getD 4 (0, 0)).1, .int .i32 (barsL.getD 4 (0, 0)).2]) w := by kernel_rfl
theorem idxBar (w : World) (k : Nat) (hk : k < 5) : (Instr.index 144 (.agg barCells.toArray) (.int .i64 (k : Int))).run Tryd.prog w = .ok (.agg #[.int .i32 (barsL.getD k (0, 0)).1, .int .i32 (barsL.getD k (0, 0)).2]) w := by
  match k, hk with
  | 0, _ => exact idxBar0 w
  | 1, _ => exact idxBar1 w
  | 2, _ => exact idxBar2 w
  | 3, _ => exact idxBar3 w
  | 4, _ => exact idxBar4 w
def freeFrom (c : Int) (k : Nat) : Bool := (barsL.drop k).all fun b => !(decide (b.1 ≤ c) && decide (c ≤ b.2))
theorem free_step (c : Int) (k : Nat) (hk : k < 5) : freeFrom c k = (!(decide ((barsL.getD k (0, 0)).1 ≤ c) && decide (c ≤ (barsL.getD k (0, 0)).2)) && freeFrom c (k + 1)) := by
  have : k = 0 ∨ k = 1 ∨ k = 2 ∨ k = 3 ∨ k = 4 := by omega
  rcases this with rfl | rfl | rfl | rfl | rfl <;> rfl

def LetIs (c : Int) (w : World) (e : Ending) (w' : World) : Prop := e = .returned (.bool (okRune c)) ∧ Below w.heap.size w w'
theorem let_no {c : Int} (h : freeFrom c 0 = false) : okRune c = false := by
  unfold okRune
  have : (barsL.all fun b => !(decide (b.1 ≤ c) && decide (c ≤ b.2))) = false := h
  rw [this]; rfl
theorem let_yes {c : Int} (h : freeFrom c 0 = true) : okRune c = decide (Go.bits .and .i32 c 65535 < 65534) := by
  unfold okRune
  have : (barsL.all fun b => !(decide (b.1 ≤ c) && decide (c ≤ b.2))) = true := h
  rw [this]; rfl

set_option maxHeartbeats 1600000 in
set_option maxRecDepth 100000 in
theorem letIn_any (c : Int) (w : World) (hG : GW w) : Calls Tryd.prog 89 #[.int .i32 c] w (LetIs c w) := by
  have HG := Lib.hid hG
  clear hG
  go_enter Tryd.func89, Tryd.ntmps89
  go_wp2_with (refine wpList_load_cells rfl 144 _ rfl 1 rfl barCells _ (bars_cells HG.out) Tryd.underlying144 rfl (by kernel_rfl) ?_)
  obtain ⟨B, hB⟩ : ∃ B : Array Value, B = barCells.toArray := ⟨_, rfl⟩
  have HI : ∀ (w : World) (k : Nat) (hk : k < 5), (Instr.index 144 (.agg B) (.int .i64 (k : Int))).run Tryd.prog w = .ok (.agg #[.int .i32 (barsL.getD k (0, 0)).1, .int .i32 (barsL.getD k (0, 0)).2]) w := fun w k hk => by rw [hB]; exact idxBar w k hk
  have HIX := Lib.hid HI
  rw [← hB]
  clear hB HI
  go_loopw [6] (fun i wr => ∃ k : Nat, k ≤ 5 ∧ i = .int .i64 (k : Int) ∧ freeFrom c 0 = freeFrom c k ∧ Below w.heap.size w wr) (fun i _ => 5 - (intOf i).toNat)
  case atStart => exact ⟨0, by omega, rfl, rfl, Below.refl _ _⟩
  case round =>
    obtain ⟨k, hk, rfl, hfr, hb⟩ := hrel
    have HF := Lib.hid hfr
    have HB := Lib.hid hb
    clear hfr hb
    by_cases hlt : k < 5
    · obtain ⟨lo, hlo⟩ : ∃ lo, lo = (barsL.getD k (0, 0)).1 := ⟨_, rfl⟩
      obtain ⟨hi, hhi⟩ : ∃ hi, hi = (barsL.getD k (0, 0)).2 := ⟨_, rfl⟩
      have hx : (Instr.index 144 (.agg B) (.int .i64 (k : Int))).run Tryd.prog wr = .ok (.agg #[.int .i32 lo, .int .i32 hi]) wr := by rw [hlo, hhi]; exact HIX.out wr k hlt
      have hst := free_step c k hlt
      rw [← hlo, ← hhi] at hst
      have HS := Lib.hid hst
      have hlti : (k : Int) < 5 := by omega
      clear hst hlo hhi
      by_cases h1 : lo ≤ c
      · by_cases h2 : c ≤ hi
        · have b1 : decide (lo ≤ c) = true := decide_eq_true h1
          have b2 : decide (c ≤ hi) = true := decide_eq_true h2
          go_wp2
          go_ret
          exact ⟨by rw [let_no (by rw [HF.out, HS.out, b1, b2]; rfl)]; rfl, (HB.out.alloc HB.out.size _)⟩
        · have b1 : decide (lo ≤ c) = true := decide_eq_true h1
          have b2 : decide (c ≤ hi) = false := decide_eq_false h2
          have HS2 := Lib.hid (show freeFrom c k = freeFrom c (k + 1) by rw [HS.out, b1, b2]; rfl)
          go_wp2
          go_roundw
          case rel => exact ⟨k + 1, by omega, by go_num, by rw [HF.out, HS2.out], (HB.out.alloc HB.out.size _)⟩
          case measure => simp [intOf]; omega
      · have b1 : decide (lo ≤ c) = false := decide_eq_false h1
        have HS2 := Lib.hid (show freeFrom c k = freeFrom c (k + 1) by rw [HS.out, b1]; rfl)
        go_wp2
        go_roundw
        case rel => exact ⟨k + 1, by omega, by go_num, by rw [HF.out, HS2.out], (HB.out.alloc HB.out.size _)⟩
        case measure => simp [intOf]; omega
    · obtain rfl : k = 5 := by omega
      go_wp2
      go_ret
      exact ⟨by rw [let_yes (by rw [HF.out]; rfl)]; rfl, HB.out⟩
end Go.Proofs.YtloccjkcmlkifaaDoor

