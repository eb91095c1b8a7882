/- XformEarlierLeft_card, part 18. -/
import Derived.WalkKit
import Derived.ProofKit
import Derived.OpenShut
import Derived.SizedLaws
import Derived.Deep.Slices
import Derived.Test.YtloccjkcmlkifaaDoorRows
import Derived.Test.YtloccjkcmlkifaaDoorQEl1
import Derived.Test.YtloccjkcmlkifaaDoorQEl0
import Derived.Test.YtloccjkcmlkifaaDoorProg
import Derived.Deep.Draws
import Derived.Deep.DeepHandedRow
import Derived.Lib.LaidTab
import Derived.Test.YtloccjkcmlkifaaDoorQEl7
import Derived.Test.YtloccjkcmlkifaaDoorCards
import Derived.Test.YtloccjkcmlkifaaDoorTie
import Derived.Test.YtloccjkcmlkifaaDoorQEl8
import Derived.Test.YtloccjkcmlkifaaDoorQEl9
import Derived.Laws.RangeAny
import Derived.Test.YtloccjkcmlkifaaDoorQEl15
import Derived.Lib.Hide
import Derived.Deep.LoopGhost
import Derived.IntWalk

section
/- Reading what comes in: 'Red': the cells cs read as a value of type t in memory w, each slice and string of it within the form's reach. It is opened type by type; no datum is left to carry. For any program. -/
namespace Go.Proofs.YtloccjkcmlkifaaDoor
open Go.ChangeShapes Go.WideShapes Go.ChangeAt Go.RowKit

def Red {H : Type} (enc : TypeId × Value → H) (P : Program) (w : World) (t : TypeId) (cs : List Value) : Prop :=
 ∃ (fuel : Nat) (d : DataW H) (ps : List MemPlace), DataW.trod enc P w 0 (fun _ => true) true fuel t cs = some (d, ps) ∧ (d.weights P t).all (· ≤ reachBytes) = true

section
variable {H : Type} {enc : TypeId × Value → H} {P : Program} {w : World} {t : TypeId} {cs : List Value}

theorem red_bool (ht : P.underlying t = some .bool) (h : Red enc P w t cs) : ∃ b, cs = [.bool b] := by
 obtain ⟨fuel, d, ps, h, _⟩ := h
 obtain ⟨b, rfl, _⟩ := DataW.trod_bool ht h
 exact ⟨b, rfl⟩

theorem red_int {k : IntKind} (ht : P.underlying t = some (.int k)) (h : Red enc P w t cs) : ∃ n, cs = [.int k n] ∧ (Lit.int k n).wf = true := by
 obtain ⟨fuel, d, ps, h, _⟩ := h
 obtain ⟨n, rfl, _, hw⟩ := DataW.trod_int ht h
 exact ⟨n, rfl, hw⟩

theorem weightsAll_mem {e : TypeId} {l : List (DataW H)} {d : DataW H} (hd : d ∈ l) {x : Nat} (hx : x ∈ d.weights P e) : x ∈ DataW.weightsAll P e l := by
 induction l with
 | nil => cases hd
 | cons a l ih =>
  simp only [DataW.weightsAll, List.mem_append]
  rcases List.mem_cons.1 hd with rfl | h
  · exact .inl hx
  · exact .inr (ih h)

theorem red_slice {e : TypeId} (ht : P.underlying t = some (.slice e)) (hpos : 0 < P.cellsOf e) (h : Red enc P w t cs) :
 ∃ (A : Option Addr) (n c : Nat), cs = [.slice A n c] ∧ n ≤ c ∧ c * P.bytesOf e ≤ 140737488351232 ∧ (0 < c → ∃ b o, A = some ⟨b, o, none⟩ ∧ b < w.heap.size) ∧ (A = none → c = 0) ∧
  ∀ b o, A = some ⟨b, o, none⟩ → ∀ i, i < c → ∃ cs', cs'.length = P.cellsOf e ∧ (∀ j, j < P.cellsOf e → w.cell? ⟨b, o + (i * P.cellsOf e + j), none⟩ = cs'[j]?) ∧ Red enc P w e cs' := by
 obtain ⟨fuel, d, ps, h, hw⟩ := h
 rcases Go.Deep.open_slice ht h with ⟨rfl, hx⟩ | ⟨a, len, cap, m, n, D, Pl, rfl, hb, hl, hm, hmm, hx, hcell⟩
 · exact ⟨none, 0, 0, rfl, Nat.le_refl _, by simp, fun h => absurd h (by omega), fun _ => rfl, fun b o h => by cases h⟩
 · simp only [if_true] at hmm
   subst hmm
   simp only [Prod.mk.injEq] at hx
   obtain ⟨rfl, rfl⟩ := hx
   simp only [DataW.weights, ht, List.all_cons, Bool.and_eq_true, decide_eq_true_eq, List.length_map, List.length_range] at hw
   obtain ⟨hw1, hw2⟩ := hw
   have hspot : 0 < m → a.spot = none ∧ a.block < w.heap.size := by
    intro hc
    obtain ⟨cs', h1, _⟩ := hcell 0 hc
    obtain ⟨_, hlen, hi⟩ := World.cells?_some h1
    have h0 := hi 0 hpos
    rw [List.getElem?_eq_getElem (by omega)] at h0
    simp only [Nat.zero_mul, Addr.add, if_true] at h0
    refine ⟨?_, World.block_lt_of_cell? w _ h0⟩
    unfold World.cell? at h0
    split at h0
    · split at h0
      · cases h0
      · rename_i hs
        cases hsp : a.spot with
        | none => rfl
        | some _ => simp [hsp] at hs
    · cases h0
   refine ⟨some a, len, m, rfl, hl, ?_, ?_, (fun h => by cases h), ?_⟩
   · have : len + (m - len) = m := by omega
     rw [this] at hw1
     exact hw1
   · intro hc
     obtain ⟨h1, h2⟩ := hspot hc
     exact ⟨a.block, a.off, by cases a; simp_all, h2⟩
   · intro b o hA i hi
     cases hA
     obtain ⟨cs', h1, h2⟩ := hcell i hi
     obtain ⟨_, hlen, hj⟩ := World.cells?_some h1
     refine ⟨cs', hlen, fun j hjl => ?_, n, D i, Pl i, h2, ?_⟩
     · have := hj j hjl
       rw [← this]
       congr 1
       unfold Addr.add
       by_cases h0 : i * P.cellsOf e = 0 <;> by_cases h3 : j = 0 <;> simp [h0, h3, Nat.add_assoc]
     · rw [List.all_eq_true]
       intro x hx
       refine List.all_eq_true.1 hw2 x ?_
       rw [List.mem_append]
       by_cases hil : i < len
       · exact .inl (weightsAll_mem (List.mem_map.2 ⟨i, List.mem_range.2 hil, rfl⟩) hx)
       · exact .inr (weightsAll_mem (List.mem_map.2 ⟨i - len, List.mem_range.2 (by omega), by congr 1; omega⟩) hx)

theorem red_struct {fs : Array Field} (ht : P.underlying t = some (.struct fs)) (h : Red enc P w t cs) :
 cs.length = P.cellsOf t ∧ ∀ (i : Nat) (f : Field), fs[i]? = some f → Red enc P w f.type ((cs.drop f.offset).take (P.cellsOf f.type)) := by
 obtain ⟨fuel, d, ps, h, hw⟩ := h
 obtain ⟨xs, n, _, hx, hlen, hxs, hf⟩ := DataW.trod_struct ht h
 simp only [Prod.mk.injEq] at hx
 obtain ⟨rfl, rfl⟩ := hx
 refine ⟨hlen, fun i f hi => ?_⟩
 have hi' : i < xs.length := by rw [hxs]; exact (Array.getElem?_eq_some_iff.1 hi).1
 have h1 := hf i f hi
 rw [List.getElem?_eq_getElem hi'] at h1
 refine ⟨n, xs[i].1, xs[i].2, h1, ?_⟩
 simp only [DataW.weights, ht] at hw
 rw [List.all_eq_true] at hw ⊢
 intro x hxm
 refine hw x (DataW.weights_mem_each (j := i) (t := f.type) (d := xs[i].1) ?_ ?_ x hxm)
 · rw [List.getElem?_map, Array.getElem?_toList, hi]; rfl
 · rw [List.getElem?_map, List.getElem?_eq_getElem hi']; rfl

theorem red_all : ∀ (ts : List TypeId) (vs : List Value) (ds : List (DataW H)) (ps : List MemPlace), DataW.TrodAll enc P w 0 (fun _ => true) true ts vs ds ps →
 (DataW.weightsEach P ts ds).all (· ≤ reachBytes) = true → vs.length = ts.length ∧ ∀ (j : Nat) t v, ts[j]? = some t → vs[j]? = some v → Red enc P w t v.cells.toList := by
 intro ts
 induction ts with
 | nil =>
  intro vs ds ps h _
  cases vs <;> cases ds <;> simp_all [DataW.TrodAll]
 | cons t ts ih =>
  intro vs ds ps h hw
  cases vs with
  | nil => cases ds <;> simp [DataW.TrodAll] at h
  | cons v vs =>
   cases ds with
   | nil => simp [DataW.TrodAll] at h
   | cons d ds =>
    obtain ⟨p, q, ⟨fuel, h1⟩, h2, rfl⟩ := h
    simp only [DataW.weightsEach, List.all_append, Bool.and_eq_true] at hw
    obtain ⟨hl, hr⟩ := ih vs ds q h2 hw.2
    refine ⟨by simp [hl], fun j t' v' ht' hv' => ?_⟩
    cases j with
    | zero =>
     simp at ht' hv'
     subst ht' hv'
     exact ⟨fuel, d, p, h1, hw.1⟩
    | succ j =>
     simp at ht' hv'
     exact hr j t' v' ht' hv'

end
theorem args1 {args : Array Value} (h : args.size = 1) : ∃ a, args = #[a] := by
 obtain ⟨l⟩ := args
 match l, h with
 | [a], _ => exact ⟨a, rfl⟩
end Go.Proofs.YtloccjkcmlkifaaDoor
end

section
/- The step from a walk ("the call returns true and leaves all old memory alone") to the row of a law, for any program and any law whose row lists no variable. -/
namespace Go.Proofs.YtloccjkcmlkifaaDoor
open Go.ChangeShapes Go.WideShapes Go.ChangeAt Go.RowKit

def Lawful (W : World) (e : Ending) (W' : World) : Prop := e = .returned (.bool true) ∧ Below W.heap.size W W'

theorem trodAll_stays {H : Type} {enc : TypeId × Value → H} {P : Program} (hl : laidOutB P = true) {W W' : World} (hb : Below W.heap.size W W') :
 ∀ (ts : List TypeId) (vs : List Value) (ds : List (DataW H)) (ps : List MemPlace), (∀ t ∈ ts, P.readableRec t = true ∧ t < P.types.size) →
  DataW.TrodAll enc P W 0 (fun _ => true) true ts vs ds ps → (∀ x ∈ ps, x.block < W.heap.size) →
  DataW.TrodAll enc P W' 0 (fun b => decide (b < W.heap.size)) true ts vs ds ps := by
 intro ts
 induction ts with
 | nil =>
  intro vs ds ps _ h _
  cases vs <;> cases ds <;> simp_all [DataW.TrodAll]
 | cons t ts ih =>
  intro vs ds ps ht h hp
  cases vs with
  | nil => cases ds <;> simp [DataW.TrodAll] at h
  | cons v vs =>
   cases ds with
   | nil => simp [DataW.TrodAll] at h
   | cons d ds =>
    obtain ⟨p, q, h1, h2, rfl⟩ := h
    obtain ⟨hr, hz⟩ := ht t (by simp)
    exact ⟨p, q, Below.trod hl hr hz h1 hb (fun x hx => hp x (by simp [hx])), ih vs ds q (fun t' h' => ht t' (by simp [h'])) h2 (fun x hx => hp x (by simp [hx])), rfl⟩

theorem trodAll_length {H : Type} {enc : TypeId × Value → H} {P : Program} {W : World} {b : Nat} {sp : Nat → Bool} {hd : Bool} :
 ∀ (ts : List TypeId) (vs : List Value) (ds : List (DataW H)) (ps : List MemPlace), DataW.TrodAll enc P W b sp hd ts vs ds ps → ds.length = ts.length := by
 intro ts
 induction ts with
 | nil => intro vs ds ps h; cases vs <;> cases ds <;> simp_all [DataW.TrodAll]
 | cons t ts ih =>
  intro vs ds ps h
  cases vs with
  | nil => cases ds <;> simp [DataW.TrodAll] at h
  | cons v vs =>
   cases ds with
   | nil => simp [DataW.TrodAll] at h
   | cons d ds =>
    obtain ⟨p, q, h1, h2, rfl⟩ := h
    simp [ih vs ds q h2]

theorem law_post {H : Type} {enc : TypeId × Value → H} {P : Program} {f : Func} {s : ChangeSpec} {apart : Bool} {tb : TypeId} (hvars : s.vars = []) (hl : laidOutB P = true)
 (hts : ∀ t ∈ f.params.toList, P.readableRec t = true ∧ t < P.types.size) (hr : f.resultTypes = #[tb]) (hub : P.underlying tb = some .bool)
 (hfn : ∀ ds : List (DataW H), ds.length = f.params.toList.length → s.fn H ds = { results := [.lit (.bool true)], args := ds })
 {W W' : World} {args : Array Value} {ds gs : List (DataW H)} {before : List MemPlace}
 (hW : DataW.Whole enc P f.params.toList s.vars apart W args.toList ds gs before) (hb : Below W.heap.size W W') :
 s.post enc P f apart true false false W args (.bool true) W' := by
 have hW' := hW
 obtain ⟨p, q, hA, hV, rfl, hfz, hnd⟩ := hW
 rw [hvars] at hV
 obtain ⟨rfl, rfl⟩ := trodVars_none hV
 have hlen := trodAll_length _ _ _ _ hA
 have hlt : ∀ x ∈ p, x.block < W.heap.size := fun x hx => hW'.lt x (by simp [hx])
 refine ⟨ds, [], p ++ [], [], p, [], hW', ?_, ?_, ?_, hb.frame _, fun h => by cases h⟩
 · rw [List.append_nil, hfn ds hlen, hr]
   exact trodAll_cons_mk (shut_bool hub _) trodAll_mk0
 · rw [List.append_nil, hfn ds hlen]
   exact trodAll_stays hl hb _ _ _ _ hts hA hlt
 · rw [List.append_nil, hfn ds hlen, hvars]
   rfl

end Go.Proofs.YtloccjkcmlkifaaDoor
end

section
/-
 FOR A PROOF OF AN '..UptoSaid': WHAT THE BOUND GIVES. Copy it as <Name>Bulk.lean (put your seat's Name for YtloccjkcmlkifaaDoor, the bound of 'uptoSmall' for 1048576), name it in GOCLAIM.json's 'order' behind <Name>Rows. By an AI agent, Sun Nov 15 2026. No person has read it. No macro, syntax, notation, axiom, sorry.
-/
namespace Go.Proofs.YtloccjkcmlkifaaDoor.bulks

theorem append {H : Type} (l r : List (DataW H)) : Rows.uptoBulkAll (l ++ r) = Rows.uptoBulkAll l + Rows.uptoBulkAll r := by
 induction l with
 | nil => simp [Rows.uptoBulkAll]
 | cons x l ih => simp only [List.cons_append, Rows.uptoBulkAll, ih]; omega

theorem bound {H : Type} {l : List (DataW H)} (hk : Rows.uptoSmall H l = true) : Rows.uptoBulkAll l ≤ 1048576 := by
 simpa [Rows.uptoSmall] using hk

end Go.Proofs.YtloccjkcmlkifaaDoor.bulks
end

section
/- Steps of a region that draws its order, in one word each (for printed texts written shorter by wip/tools/squeeze.py). -/
namespace Go.Proofs.YtloccjkcmlkifaaDoor
open Go.RowKit Go.Proofs.YtloccjkcmlkifaaDoorW.PrintWords Go.Proofs.YtloccjkcmlkifaaDoorW.PrintLast

section
variable {P : Program} {ops : Array Oper} {Q : Exit → Act → World → Prop} {md : Region.Mode} {S : World → Prop} {ds : List Nat} {fuel : Nat} {l : Array Bool} {a a' : Act} {w : World} {oi : Oper} {N : Tmp} {v : Value} {T : Bool × List (List Nat × List Nat)}
end
theorem dz_ (i : Int) (h : decide (0 ≤ i) = true := by first | (with_reducible assumption) | assumption) : 0 ≤ i := of_decide_eq_true h
theorem dl_ (i j : Int) (h : decide (i < j) = true := by first | (with_reducible assumption) | assumption) : i < j := of_decide_eq_true h
theorem RW_ {α : Type} {d : Kd α} {e base : Nat} {ok : Nat → Prop} {w w1 : World} {v : Value} {xs : List α} (h : d.R e w base ok v xs) (hb : Below w.heap.size w w1 := by (with_reducible repeat (first | exact Below.refl _ _ | apply below_alloc | apply pw_below_drewN | apply below_drew))) : d.R e w1 base ok v xs := Kd.R_below h hb
section
variable {P : Program} {ops : Array Oper} {Q : Exit → Act → World → Prop} {a : Act} {o : Oper} {rest : List Oper} {W : World}
theorem bxE_ (N : Tmp) (t : TypeId) (cs : Array Value) (h : ∀ g, g = W.heap.size → ∀ w1, w1.heap[g]? = some (.cells cs t (0, 0)) → Below W.heap.size W w1 → wpList P ops Q rest (a.put o.dst (.pointer (some ⟨g, 0, none⟩))) w1)
 (hd : o.dst = some N := by rfl) (hgd : o.guard = none := by rfl)
 (hrun : (execOp a.eval o).run P W = .ok (.value (.pointer (some ⟨W.heap.size, 0, none⟩))) (W.alloc (.cells cs t (0, 0))) := by first | (go_simp; done) | (go_simp; rfl)) : wpList P ops Q (o :: rest) a W := box_event hgd hd hrun h
end
theorem CW_ {α : Type} {d : Kd α} {w w1 : World} {A : Option Addr} {n : Nat} {xs : List α} (h : d.C w A n xs) (hb : Below w.heap.size w w1 := by (with_reducible repeat (first | exact Below.refl _ _ | apply below_alloc | apply pw_below_drewN | apply below_drew))) : d.C w1 A n xs := Kd.C_below h hb
section
variable {P : Program} {ops : Array Oper} {Q : Exit → Act → World → Prop} {a : Act} {oi : Oper} {rest : List Oper} {w : World}
theorem goS_ (N : Tmp) (hd : oi.dst = some N) {f : FuncId} {fn : Func} {ops_ : Array Operand} {ts : Array TypeId} (hf : P.funcs[f]? = some fn) (args : Array Value)
 (h : Calls P f args w fun e w' => ∃ v, e = .returned v ∧ wpList P ops Q rest (a.put (some N) v) w')
 (hg : oi.guard = none := by rfl) (hname : (fn.name == "runtime.NumGoroutine") = false := by kernel_rfl) (hb : fn.body.isSome = true := by rfl)
 (hop : oi.op = .call { callee := .value (.func f), args := ops_, argTypes := ts } := by rfl)
 (hargs : ops_.map a.eval = args := by (try simp only [List.map_toArray, List.map_cons, List.map_nil]); first | done | rfl | (simp only [List.length_drop, List.length_take]; rfl)) : wpList P ops Q (oi :: rest) a w :=
 goesL_ (some N) hd hg hf hname hb args hop hargs h
end
theorem ok_ {p : Prop} (h : p := by first | rfl | (simp; done) | (simp [*]; done)) : p := h
theorem rs_ {p : Prop} (h : p := by first | rfl | (simp [*] <;> rfl)) : p := h
theorem dr_ {p : Prop} (h : p := by repeat (first | exact Drawn0.refl _ | apply Drawn0.step)) : p := h
theorem nl_ {p : Prop} (h : p := by first | exact Kd.R_nil _ _ _ _ _ | exact Kd.N_nil _ _ _ _ _ | exact Kd.V_nil _ _ _ _ _ | exact Kd.Q_nil _ _ _ _ _ | exact Kd.S_nil _ _ _ _ _) : p := h
theorem lk_ {q p : Prop} (h : Aside0 q) (h2 : q → p := by intro _; first | omega | exact Nat.le_refl _) : p := h2 h.out
theorem lo_ {p : Prop} (h : p := by first | omega | exact Nat.le_refl _) : p := h
theorem ifE_ {α : Type} {a b : Int} [Decidable (a = b)] {x y r : α} (H : (if a = b then x else y) = r) : ((a == b) = true ∧ (a != b) = false ∧ x = r) ∨ ((a == b) = false ∧ (a != b) = true ∧ y = r) := by
 by_cases c : a = b
 · rw [if_pos c] at H; exact .inl ⟨beq_iff_eq.mpr c, bne_eq_false_iff_eq.mpr c, H⟩
 · rw [if_neg c] at H; exact .inr ⟨beq_eq_false_iff_ne.mpr c, bne_iff_ne.mpr c, H⟩
theorem ifL_ {α : Type} {a b : List UInt8} [Decidable (a = b)] {x y r : α} (H : (if a = b then x else y) = r) : ((a == b) = true ∧ (a != b) = false ∧ x = r) ∨ ((a == b) = false ∧ (a != b) = true ∧ y = r) := by
 by_cases c : a = b
 · rw [if_pos c] at H; exact .inl ⟨beq_iff_eq.mpr c, bne_eq_false_iff_eq.mpr c, H⟩
 · rw [if_neg c] at H; exact .inr ⟨beq_eq_false_iff_ne.mpr c, bne_iff_ne.mpr c, H⟩
theorem ifB_ {α : Type} {a : Bool} [Decidable (a = true)] {x y r : α} (H : (if a = true then x else y) = r) : (a = true ∧ x = r) ∨ (a = false ∧ y = r) := by
 by_cases c : a = true
 · rw [if_pos c] at H; exact .inl ⟨c, H⟩
 · rw [if_neg c] at H; exact .inr ⟨by simpa using c, H⟩
theorem ifD_ {α : Type} {c : Prop} [Decidable c] {x y r : α} (H : (if c then x else y) = r) : (decide c = true ∧ x = r) ∨ (decide c = false ∧ y = r) := by
 by_cases h : c
 · rw [if_pos h] at H; exact .inl ⟨decide_eq_true h, H⟩
 · rw [if_neg h] at H; exact .inr ⟨decide_eq_false h, H⟩
theorem ifGt_ {α : Type} {a b : Int} [Decidable (a > b)] {x y r : α} (H : (if a > b then x else y) = r) : (decide (b < a) = true ∧ x = r) ∨ (decide (b < a) = false ∧ y = r) := ifD_ (c := b < a) H
theorem ifGe_ {α : Type} {a b : Int} [Decidable (a ≥ b)] {x y r : α} (H : (if a ≥ b then x else y) = r) : (decide (b ≤ a) = true ∧ x = r) ∨ (decide (b ≤ a) = false ∧ y = r) := ifD_ (c := b ≤ a) H
theorem ifG_ {α : Type} {n : Nat} [Decidable ((n : Int) > 0)] {x y r : α} (H : (if (n : Int) > 0 then x else y) = r) : (decide (0 < (n : Int)) = true ∧ decide (0 < n) = true ∧ x = r) ∨ (decide (0 < (n : Int)) = false ∧ decide (0 < n) = false ∧ y = r) := by
 by_cases c : (n : Int) > 0
 · rw [if_pos c] at H; exact .inl ⟨decide_eq_true c, decide_eq_true (by omega), H⟩
 · rw [if_neg c] at H; exact .inr ⟨decide_eq_false c, decide_eq_false (by omega), H⟩
end Go.Proofs.YtloccjkcmlkifaaDoor
end

section
/- The table of package-level variables, where it lies. -/
namespace Go.Proofs.YtloccjkcmlkifaaDoor
open Go.RowKit
def barsL : List (Int × Int) := [(0, 8), (11, 31), (127, 159), (64976, 65007), (65279, 65279)]
def GW (w : World) : Prop := 2 ≤ w.heap.size ∧ ∀ i, i < 5 → w.cell? ⟨1, i * 2, none⟩ = some (.int .i32 (barsL.getD i (0, 0)).1) ∧ w.cell? ⟨1, i * 2 + 1, none⟩ = some (.int .i32 (barsL.getD i (0, 0)).2)
theorem GW.below {w w' : World} (h : GW w) (hb : Below w.heap.size w w') : GW w' := by
 obtain ⟨h0, h1⟩ := h
 have := hb.size
 exact ⟨by omega, fun i hi => ⟨(hb.cell (p := ⟨1, i * 2, none⟩) (by show 1 < _; omega)).trans (h1 i hi).1, (hb.cell (p := ⟨1, i * 2 + 1, none⟩) (by show 1 < _; omega)).trans (h1 i hi).2⟩⟩
theorem GW.drewN {w : World} (h : GW w) (n : Nat) : GW (w.drewN n) := h
theorem GW.drew {w : World} (h : GW w) : GW w.drew := h
end Go.Proofs.YtloccjkcmlkifaaDoor
end

section
/- The step from a walk to the row of a law under the bound, whose row lists package-level variables. For any program; and what every row of this seat asks of the loaded program. -/
namespace Go.Proofs.YtloccjkcmlkifaaDoor
open Go.ChangeShapes Go.WideShapes Go.ChangeAt Go.RowKit

theorem Tryd.own : ownKnob Tryd.prog.godebug = none := by kernel_rfl
theorem Tryd.laidOut : laidOutB Tryd.prog = true := by kernel_rfl
end Go.Proofs.YtloccjkcmlkifaaDoor
end

section
/- From a row's word on the table of bars to the fact that the walks use; and a world that holds it. -/
namespace Go.Proofs.YtloccjkcmlkifaaDoor
open Go.ChangeShapes Go.WideShapes Go.ChangeAt Go.RowKit

theorem bars_shape {H : Type} {enc : TypeId × Value → H} {P : Program} {w : World} {base : Nat} {sp : Nat → Bool} {held : Bool} {fuel : Nat} {t e : TypeId} {n : Nat} {f0 f1 : Field} {cs : List Value} {zs : List (Int × Int)} {p : List MemPlace}
 (ht : P.underlying t = some (.array n e)) (he : P.underlying e = some (.struct #[f0, f1])) (hi0 : P.underlying f0.type = some (.int .i32)) (hi1 : P.underlying f1.type = some (.int .i32))
 (ho0 : f0.offset = 0) (ho1 : f1.offset = 1) (c0 : P.cellsOf f0.type = 1) (c1 : P.cellsOf f1.type = 1) (ce : P.cellsOf e = 2) (hn : n = zs.length)
 (h : DataW.trod enc P w base sp held fuel t cs = some (.agg (zs.map fun z => .agg [.lit (.int .i32 z.1), .lit (.int .i32 z.2)]), p)) :
 ∀ j, j < n → cs[j * 2]? = some (.int .i32 (zs.getD j (0, 0)).1) ∧ cs[j * 2 + 1]? = some (.int .i32 (zs.getD j (0, 0)).2) := by
 obtain ⟨xs, m, _, hx, hl, hlen, hf⟩ := DataW.trod_array ht h
 simp only [Prod.mk.injEq, DataW.agg.injEq] at hx
 intro j hj
 have hj2 : j < xs.length := by omega
 have h1 := hf j hj
 rw [List.getElem?_eq_getElem hj2] at h1
 obtain ⟨y0, y1, m2, hy, hl2, t0, t1⟩ := trod_struct2 he h1
 rw [ho0, c0] at t0
 rw [ho1, c1] at t1
 obtain ⟨a, ha, rfl, _⟩ := DataW.trod_int hi0 t0
 obtain ⟨b, hb, rfl, _⟩ := DataW.trod_int hi1 t1
 have hz : (xs.map (·.1))[j]? = (zs.map fun z => (DataW.agg [.lit (.int .i32 z.1), .lit (.int .i32 z.2)] : DataW H))[j]? := by rw [hx.1]
 rw [List.getElem?_map, List.getElem?_map, List.getElem?_eq_getElem hj2, List.getElem?_eq_getElem (by omega : j < zs.length), hy] at hz
 simp only [Option.map_some, Option.some.injEq, DataW.agg.injEq, List.cons.injEq, DataW.lit.injEq, Lit.int.injEq, true_and, and_true] at hz
 rw [ce] at ha hb
 rw [List.getD_eq_getElem?_getD, List.getElem?_eq_getElem (by omega : j < zs.length), Option.getD_some, ← hz.1, ← hz.2]
 have hq : ∀ (l : List Value) (u v : Value), ((l.take 2).drop 0).take 1 = [u] → ((l.take 2).drop 1).take 1 = [v] → l[0]? = some u ∧ l[1]? = some v := by
  intro l u v h0 h1
  match l with
  | [] => simp at h0
  | [x] => simp at h1
  | x :: y :: r => simp at h0 h1; simp [h0, h1]
 have := hq _ _ _ ha hb
 rw [List.getElem?_drop, List.getElem?_drop] at this
 exact this

noncomputable def laidWorld (os : Os) : World :=
 let w0 := World.holding Tryd.prog os ⟨#[], #[], []⟩
 { w0 with heap := w0.heap.modify 1 fun
  | .cells _ t frozen => .cells #[.int .i32 0, .int .i32 8, .int .i32 11, .int .i32 31, .int .i32 127, .int .i32 159, .int .i32 64976, .int .i32 65007, .int .i32 65279, .int .i32 65279] t frozen
  | o => o }
end Go.Proofs.YtloccjkcmlkifaaDoor
end

section
/- The step from a walk to the row of a law whose row lists package-level variables ('laid'), for any program. -/
namespace Go.Proofs.YtloccjkcmlkifaaDoor
open Go.ChangeShapes Go.WideShapes Go.ChangeAt Go.RowKit

theorem law_lifted_laid {C : Checked} {os : Os} {f : FuncId} {fn : Func} {s : ChangeSpec} {tb : TypeId} {H : Type} {enc : TypeId × Value → H} {laid : List (String × DataW Unit)} {F : Stop.Interp} {up : OpenSpec}
 (hup : up.vars = s.vars ∧ up.bare.plain.varTypes C.prog = s.plain.varTypes C.prog ∧ ∀ W args v W', s.post enc C.prog fn false true false false W args v W' → (up.at F).post enc C.prog fn false true false false W args v W')
 (own : ownKnob C.prog.godebug = none) (started : os.Started) (noInit : C.prog.inits.idxOf? f = none) (hfn : C.prog.funcs[f]? = some fn)
 (witness : ∃ (w : World) (tape : Tape) (i : Input), w.os = os ∧ (w.forCall tape i).Shaped C.prog ∧ i.vars = [] ∧ Input.okWide C.prog (w.forCall tape i) .any w.heap.size f i ∧
  up.preRow enc C.prog fn [] false laid (w.forCall tape i).memory i.args ∧ ({} : Assume).holds C.prog (lone (Frame.enter C.prog f i.args .normal) [] (w.forCall tape i)))
 (hvars : s.vars = []) (hl : laidOutB C.prog = true) (hts' : (fn.params.toList.all fun t => C.prog.readableRec t && decide (t < C.prog.types.size)) = true) (hr : fn.resultTypes = #[tb]) (hub : C.prog.underlying tb = some .bool)
 (hsp : ∀ ds : List (DataW H), ds.length = fn.params.toList.length → s.fn H ds = { results := [.lit (.bool true)], args := ds })
 (walk : ∀ (W : World) (base : Nat) (args : Array Value), laidMetH C.prog laid W → args.size = fn.params.size →
  (∀ (j : Nat) t v, fn.params[j]? = some t → args[j]? = some v → Value.okWide C.prog W .any base t v) →
  (∀ (j : Nat) t v, fn.params[j]? = some t → args[j]? = some v → Red enc C.prog W t v.cells.toList) →
  (∀ ds : List (DataW H), ∀ p, DataW.TrodAll enc C.prog W 0 (fun _ => true) true fn.params.toList args.toList ds p → (∀ k, up.cond = some k → k H ds = true) → Calls C.prog f args W (Lawful W))) :
 ReturnsInHanded {} C os f .any (up.preRow enc C.prog fn [] false laid) ((up.at F).post enc C.prog fn false true false false) := by
 have hts : ∀ t ∈ fn.params.toList, C.prog.readableRec t = true ∧ t < C.prog.types.size := fun t ht => by simpa using List.all_eq_true.mp hts' t ht
 refine returnsInHanded_of_row own started noInit hfn witness ?_
 intro W base args ds gs before hval hW _ hcond hsz hL _ _
 rw [hup.1] at hW
 have hW' := hW
 obtain ⟨p, q, hA, hV, rfl, hfz, hnd⟩ := hW
 rw [hvars] at hV
 obtain ⟨rfl, rfl⟩ := trodVars_none hV
 have hvt : s.plain.varTypes C.prog = [] := by
  have : s.plain.vars = [] := hvars
  simp [DataSpec.varTypes, this]
 rw [hup.2.1, hvt] at hsz
 simp only [List.append_nil] at hsz hcond
 obtain ⟨hl1, hl2⟩ := red_all _ _ _ _ hA hsz
 refine (walk W base args hL (by simpa using hl1) hval (fun j t v ht hv => hl2 j t v (by simpa using ht) (by simpa using hv)) ds p hA hcond).mono fun e W' ⟨he, hb⟩ => ?_
 exact ⟨_, he, hup.2.2 _ _ _ _ (law_post hvars hl hts hr hub hsp hW' hb)⟩
end Go.Proofs.YtloccjkcmlkifaaDoor
end

section
/- Small laws by which printed proofs are written shorter. -/
namespace Go.Proofs.YtloccjkcmlkifaaDoorW.PrintWords
open Go.RowKit
theorem belW_ {n : Nat} {w0 w1 w2 : World} (h : Aside0 (Below n w0 w1)) (hx : Below n w0 w1 → Below n w0 w2 := by intro hb_; repeat (first | (with_reducible first | exact hb_ | apply below_alloc | apply pw_below_drewN | apply below_drew1 | refine below_set ?_ (Aside0.out ‹_›)) | exact hb_)) : Below n w0 w2 := hx h.out
theorem blkW_ {w1 w2 : World} {g : Nat} {o : Obj} (h : Aside0 (w1.heap[g]? = some o)) (hx : w1.heap[g]? = some o → w2.heap[g]? = some o := by intro hb_; (with_reducible repeat (first | refine blk_drewN ?_ _ | refine blk_drew ?_ | refine blk_alloc ?_ _)); exact hb_) : w2.heap[g]? = some o := hx h.out
theorem blkB_ {w1 w2 w3 : World} {g : Nat} {o : Obj} (h : Aside0 (w1.heap[g]? = some o)) (hb : Below w2.heap.size w2 w3) (hx : w1.heap[g]? = some o → w2.heap[g]? = some o := by intro hb_; (with_reducible repeat (first | refine blk_drewN ?_ _ | refine blk_drew ?_ | refine blk_alloc ?_ _)); exact hb_) : Aside0 (w3.heap[g]? = some o) := ⟨blk_below (hx h.out) hb⟩
theorem belB_ {w w1 w2 w3 : World} (h : Aside0 (Below w.heap.size w w1)) (hb : Below w2.heap.size w2 w3) (hx : Below w.heap.size w w1 → Below w.heap.size w w2 := by intro hb_; repeat (first | (with_reducible first | exact hb_ | apply below_alloc | apply pw_below_drewN | apply below_drew1 | refine below_set ?_ (Aside0.out ‹_›)) | exact hb_)) : Aside0 (Below w.heap.size w w3) := ⟨below_step (hx h.out) hb⟩
theorem gee_ {g : Nat} {w w1 w2 : World} (hg : g = w2.heap.size) (h : Aside0 (Below w.heap.size w w1)) (hx : Below w.heap.size w w1 → Below w.heap.size w w2 := by intro hb_; repeat (first | (with_reducible first | exact hb_ | apply below_alloc | apply pw_below_drewN | apply below_drew1 | refine below_set ?_ (Aside0.out ‹_›)) | exact hb_)) : Aside0 (w.heap.size ≤ g) := ⟨by rw [hg]; exact below_size (hx h.out)⟩
theorem neL_ {g gb : Nat} {w1 w2 : World} {o : Obj} (hg : gb = w2.heap.size) (h : Aside0 (w1.heap[g]? = some o)) (hx : w1.heap[g]? = some o → w2.heap[g]? = some o := by intro hb_; (with_reducible repeat (first | refine blk_drewN ?_ _ | refine blk_drew ?_ | refine blk_alloc ?_ _)); exact hb_) : Aside0 (g ≠ gb) := ⟨by rw [hg]; exact Nat.ne_of_lt (blk_lt (hx h.out))⟩
theorem neR_ {g gb : Nat} {w1 w2 : World} {o : Obj} (hg : gb = w2.heap.size) (h : Aside0 (w1.heap[g]? = some o)) (hx : w1.heap[g]? = some o → w2.heap[g]? = some o := by intro hb_; (with_reducible repeat (first | refine blk_drewN ?_ _ | refine blk_drew ?_ | refine blk_alloc ?_ _)); exact hb_) : Aside0 (gb ≠ g) := ⟨by rw [hg]; exact Nat.ne_of_gt (blk_lt (hx h.out))⟩
end Go.Proofs.YtloccjkcmlkifaaDoorW.PrintWords
end

section
/- Laws for arrays of two whole numbers (compared, read as an element), and a slice of such arrays as a list of pairs. For any program. -/
namespace Go.Proofs.YtloccjkcmlkifaaDoor
open Go.RowKit

theorem run_part_int {P : Program} (w : World) (e : TypeId) (k : IntKind) (he : P.underlying e = some (.int k)) (cs : Array Value) (off : Nat) (v : Value) (h : cs[off]? = some v) :
 (part e cs off).run P w = .ok v w := by
 simp [part, isAgg, run_underlying he, h]
theorem run_sizeOf {P : Program} (w : World) (e : TypeId) (i : TypeInfo) (hi : P.info? e = some i) : (sizeOf e).run P w = .ok i.size w := by
 simp [sizeOf, typeInfo, hi]
theorem run_equalIn_pair {P : Program} (w : World) (d : Nat) (t e : TypeId) (k : IntKind) (a b a' b' : Int) (ht : P.underlying t = some (.array 2 e)) (he : P.underlying e = some (.int k)) (hi : (P.info? e).map (·.size) = some 1) :
 (Op.equalIn (d + 2) t (.agg #[.int k a, .int k b]) (.agg #[.int k a', .int k b'])).run P w = .ok (a == a' && b == b') w := by
 obtain ⟨i, hi, hs⟩ := Option.map_eq_some_iff.1 hi
 have hr : List.range' 0 2 1 = [0, 1] := rfl
 have p0 : ∀ (w : World) x y, (part e #[x, y] (0 * i.size)).run P w = .ok x w := fun w x y => run_part_int w e k he _ _ _ (by simp)
 have p1 : ∀ (w : World) x y, (part e #[x, y] i.size).run P w = .ok y w := fun w x y => run_part_int w e k he _ _ _ (by simp [hs])
 unfold Op.equalIn
 simp only [Sem.run_bind, run_underlying ht, Result.andThen_ok, run_sizeOf w e i hi, Std.Legacy.Range.forIn_eq_forIn_range', Std.Legacy.Range.size, Nat.sub_zero, Nat.add_sub_cancel, Nat.div_one, hr, List.forIn_cons, List.forIn_nil, p0, Nat.one_mul, run_equalIn_int _ _ _ _ _ _ _ he]
 cases h1 : (a == a') <;> cases h2 : (b == b') <;> simp [p1, run_equalIn_int _ _ _ _ _ _ _ he, h2]

def IdsAt (w : World) (A : Option Addr) (l : List (Int × Int)) : Prop :=
 ∀ k, k < l.length → ∃ b o, A = some ⟨b, o, none⟩ ∧ b < w.heap.size ∧ w.cell? ⟨b, o + k * 2, none⟩ = some (.int .i64 (l.getD k (0, 0)).1) ∧ w.cell? ⟨b, o + k * 2 + 1, none⟩ = some (.int .i64 (l.getD k (0, 0)).2)

theorem IdsAt.below {w w' : World} {A : Option Addr} {l : List (Int × Int)} (h : IdsAt w A l) (hb : Below w.heap.size w w') : IdsAt w' A l := by
 intro k hk'
 obtain ⟨b, o, hA, hb', h1, h2⟩ := h k hk'
 exact ⟨b, o, hA, by have := hb.size; omega, (hb.cell (p := ⟨b, _, none⟩) hb').trans h1, (hb.cell (p := ⟨b, _, none⟩) hb').trans h2⟩

end Go.Proofs.YtloccjkcmlkifaaDoor
end

section
/- What utext.Check answers, in plain words. -/
namespace Go.Proofs.YtloccjkcmlkifaaDoor
open Go.RowKit

def okSeq (s : ByteArray) (pos : Nat) (c : Int) : Bool :=
 if c = 65533 then (if 3 ≤ (s.extract pos s.size).size then ((s.extract pos s.size).extract 0 3).toList == (⟨#[239, 191, 189]⟩ : ByteArray).toList else false) else true
def okRune (c : Int) : Bool := (barsL.all fun b => !(decide (b.1 ≤ c) && decide (c ≤ b.2))) && decide (Go.bits .and .i32 c 65535 < 65534)
def chkFrom (s : ByteArray) : Nat → Nat → Int → Int × Int × Int
 | 0, _, n => (n, 0, 0)
 | f + 1, pos, n =>
  if pos < s.size then
   if okSeq s pos (Utf8.decode s pos).1 then
    if okRune (Utf8.decode s pos).1 then chkFrom s f (pos + (Utf8.decode s pos).2) (wrap64 (n + 1)) else (0, pos, 11)
   else (0, pos, 10)
  else (n, 0, 0)
def utext_Check.f (s : ByteArray) : Option (Int × Int × Int) := some (chkFrom s s.size 0 0)
theorem width_pos (s : ByteArray) (pos : Nat) (h : pos < s.size) : 1 ≤ (Utf8.decode s pos).2 := by
 by_cases ha : (s[pos]'h).toNat < 128
 · rw [decode_ascii s pos h ha]
   exact Nat.le_refl _
 · exact (decode_high s pos h (by omega)).2
theorem chk_end (s : ByteArray) (f pos : Nat) (n : Int) (h : ¬ pos < s.size) : chkFrom s f pos n = (n, 0, 0) := by
 cases f with
 | zero => rfl
 | succ f => simp [chkFrom, h]
end Go.Proofs.YtloccjkcmlkifaaDoor
end

section
/- utext.letIn, utext.Check, by their contracts. -/
namespace Go.Proofs.YtloccjkcmlkifaaDoor
open Go.RowKit Go.Proofs.YtloccjkcmlkifaaDoorW.PrintWords

theorem run_load_cells {P : Program} (w : World) (g : Nat) (ty : TypeId) (cs : List Value) (d : TypeDesc) (hc : ∀ j v, cs[j]? = some v → w.cell? ⟨g, j, none⟩ = some v)
 (hu : P.underlying ty = some d) (hd : (match d with | .struct _ | .array _ _ => true | _ => false) = true) (hi : (P.info? ty).map (·.size) = some cs.length) :
 (loadVar ty ⟨g, 0, none⟩).run P w = .ok (.agg cs.toArray) w := by
 have hl : (loadCells ⟨g, 0, none⟩ cs.length).run P w = .ok cs.toArray w :=
  run_loadCells_list (P := P) w ⟨g, 0, none⟩ cs (fun j v hv => by
   have hadd : (⟨g, 0, none⟩ : Addr).add j = ⟨g, j, none⟩ := by unfold Addr.add; split <;> simp_all
   rw [hadd]
   exact hc j v hv)
 cases hq : P.info? ty with
 | none => simp [hq] at hi
 | some i =>
  have hs : i.size = cs.length := by simpa [hq] using hi
  have hagg : (isAgg ty).run P w = .ok true w := by
   unfold isAgg
   rw [Sem.run_bind, run_underlying hu w]
   cases d <;> simp_all
  simp [loadVar, Sem.run_bind, hagg, sizeOf, typeInfo, hq, hs, hl]
theorem wpList_load_cells {P : Program} {ops : Array Oper} {rest : List Oper} {o : Oper} {a : Act} {w : World} {Q : Exit → Act → World → Prop} (hgd : o.guard = none) (ty : TypeId) (x : Operand) (ho : o.op = .load ty x)
 (g : Nat) (hx : a.eval x = .pointer (some ⟨g, 0, none⟩)) (cs : List Value) (d : TypeDesc) (hc : ∀ j v, cs[j]? = some v → w.cell? ⟨g, j, none⟩ = some v)
 (hu : P.underlying ty = some d) (hd : (match d with | .struct _ | .array _ _ => true | _ => false) = true) (hi : (P.info? ty).map (·.size) = some cs.length)
 (h : wpList P ops Q rest (a.put o.dst (.agg cs.toArray)) w) : wpList P ops Q (o :: rest) a w := by
 refine wpList_plain hgd fun _ hK => ?_
 unfold Oper.wp execOp
 simp only [ho, hx, Instr.loadAt, Instr.sureAddr, Sem.run_bind, Sem.run_pure, Result.andThen_ok, run_load_cells w g ty cs d hc hu hd hi]
 exact hK _ _ h

def barCells : List Value := [.int .i32 0, .int .i32 8, .int .i32 11, .int .i32 31, .int .i32 127, .int .i32 159, .int .i32 64976, .int .i32 65007, .int .i32 65279, .int .i32 65279]
theorem bars_cells {w : World} (h : GW w) : ∀ j v, barCells[j]? = some v → w.cell? ⟨1, j, none⟩ = some v := by
 intro j v hv
 have a0 := h.2 0 (by omega); have a1 := h.2 1 (by omega); have a2 := h.2 2 (by omega); have a3 := h.2 3 (by omega); have a4 := h.2 4 (by omega)
 match j, hv with
 | 0, hv => cases hv; exact a0.1
 | 1, hv => cases hv; exact a0.2
 | 2, hv => cases hv; exact a1.1
 | 3, hv => cases hv; exact a1.2
 | 4, hv => cases hv; exact a2.1
 | 5, hv => cases hv; exact a2.2
 | 6, hv => cases hv; exact a3.1
 | 7, hv => cases hv; exact a3.2
 | 8, hv => cases hv; exact a4.1
 | 9, hv => cases hv; exact a4.2
theorem idxBar0 (w : World) : (Instr.index 144 (.agg barCells.toArray) (.int .i64 ((0 : Nat) : Int))).run Tryd.prog w = .ok (.agg #[.int .i32 (barsL.getD 0 (0, 0)).1, .int .i32 (barsL.getD 0 (0, 0)).2]) w := by kernel_rfl
theorem idxBar1 (w : World) : (Instr.index 144 (.agg barCells.toArray) (.int .i64 ((1 : Nat) : Int))).run Tryd.prog w = .ok (.agg #[.int .i32 (barsL.getD 1 (0, 0)).1, .int .i32 (barsL.getD 1 (0, 0)).2]) w := by kernel_rfl
theorem idxBar2 (w : World) : (Instr.index 144 (.agg barCells.toArray) (.int .i64 ((2 : Nat) : Int))).run Tryd.prog w = .ok (.agg #[.int .i32 (barsL.getD 2 (0, 0)).1, .int .i32 (barsL.getD 2 (0, 0)).2]) w := by kernel_rfl
theorem idxBar3 (w : World) : (Instr.index 144 (.agg barCells.toArray) (.int .i64 ((3 : Nat) : Int))).run Tryd.prog w = .ok (.agg #[.int .i32 (barsL.getD 3 (0, 0)).1, .int .i32 (barsL.getD 3 (0, 0)).2]) w := by kernel_rfl
theorem idxBar4 (w : World) : (Instr.index 144 (.agg barCells.toArray) (.int .i64 ((4 : Nat) : Int))).run Tryd.prog w = .ok (.agg #[.int .i32 (barsL.getD 4 (0, 0)).1, .int .i32 (barsL.getD 4 (0, 0)).2]) w := by kernel_rfl
theorem idxBar (w : World) (k : Nat) (hk : k < 5) : (Instr.index 144 (.agg barCells.toArray) (.int .i64 (k : Int))).run Tryd.prog w = .ok (.agg #[.int .i32 (barsL.getD k (0, 0)).1, .int .i32 (barsL.getD k (0, 0)).2]) w := by
 match k, hk with
 | 0, _ => exact idxBar0 w
 | 1, _ => exact idxBar1 w
 | 2, _ => exact idxBar2 w
 | 3, _ => exact idxBar3 w
 | 4, _ => exact idxBar4 w
def freeFrom (c : Int) (k : Nat) : Bool := (barsL.drop k).all fun b => !(decide (b.1 ≤ c) && decide (c ≤ b.2))
theorem free_step (c : Int) (k : Nat) (hk : k < 5) : freeFrom c k = (!(decide ((barsL.getD k (0, 0)).1 ≤ c) && decide (c ≤ (barsL.getD k (0, 0)).2)) && freeFrom c (k + 1)) := by
 have : k = 0 ∨ k = 1 ∨ k = 2 ∨ k = 3 ∨ k = 4 := by omega
 rcases this with rfl | rfl | rfl | rfl | rfl <;> rfl

def LetIs (c : Int) (w : World) (e : Ending) (w' : World) : Prop := e = .returned (.bool (okRune c)) ∧ Below w.heap.size w w'
theorem let_no {c : Int} (h : freeFrom c 0 = false) : okRune c = false := by
 unfold okRune
 have : (barsL.all fun b => !(decide (b.1 ≤ c) && decide (c ≤ b.2))) = false := h
 rw [this]; rfl
theorem let_yes {c : Int} (h : freeFrom c 0 = true) : okRune c = decide (Go.bits .and .i32 c 65535 < 65534) := by
 unfold okRune
 have : (barsL.all fun b => !(decide (b.1 ≤ c) && decide (c ≤ b.2))) = true := h
 rw [this]; rfl

set_option maxHeartbeats 1600000 in
set_option maxRecDepth 100000 in
theorem letIn_any (c : Int) (w : World) (hG : GW w) : Calls Tryd.prog 89 #[.int .i32 c] w (LetIs c w) := by
 have HG := Lib.hid hG
 clear hG
 go_enter Tryd.func89, Tryd.ntmps89
 go_wp2_with (refine wpList_load_cells rfl 144 _ rfl 1 rfl barCells _ (bars_cells HG.out) Tryd.underlying144 rfl (by kernel_rfl) ?_)
 obtain ⟨B, hB⟩ : ∃ B : Array Value, B = barCells.toArray := ⟨_, rfl⟩
 have HI : ∀ (w : World) (k : Nat) (hk : k < 5), (Instr.index 144 (.agg B) (.int .i64 (k : Int))).run Tryd.prog w = .ok (.agg #[.int .i32 (barsL.getD k (0, 0)).1, .int .i32 (barsL.getD k (0, 0)).2]) w := fun w k hk => by rw [hB]; exact idxBar w k hk
 have HIX := Lib.hid HI
 rw [← hB]
 clear hB HI
 go_loopw [6] (fun i wr => ∃ k : Nat, k ≤ 5 ∧ i = .int .i64 (k : Int) ∧ freeFrom c 0 = freeFrom c k ∧ Below w.heap.size w wr) (fun i _ => 5 - (intOf i).toNat)
 case atStart => exact ⟨0, by omega, rfl, rfl, Below.refl _ _⟩
 case round =>
  obtain ⟨k, hk, rfl, hfr, hb⟩ := hrel
  have HF := Lib.hid hfr
  have HB := Lib.hid hb
  clear hfr hb
  by_cases hlt : k < 5
  · obtain ⟨lo, hlo⟩ : ∃ lo, lo = (barsL.getD k (0, 0)).1 := ⟨_, rfl⟩
    obtain ⟨hi, hhi⟩ : ∃ hi, hi = (barsL.getD k (0, 0)).2 := ⟨_, rfl⟩
    have hx : (Instr.index 144 (.agg B) (.int .i64 (k : Int))).run Tryd.prog wr = .ok (.agg #[.int .i32 lo, .int .i32 hi]) wr := by rw [hlo, hhi]; exact HIX.out wr k hlt
    have hst := free_step c k hlt
    rw [← hlo, ← hhi] at hst
    have HS := Lib.hid hst
    have hlti : (k : Int) < 5 := by omega
    clear hst hlo hhi
    by_cases h1 : lo ≤ c
    · by_cases h2 : c ≤ hi
      · have b1 : decide (lo ≤ c) = true := decide_eq_true h1
        have b2 : decide (c ≤ hi) = true := decide_eq_true h2
        go_wp2
        go_ret
        exact ⟨by rw [let_no (by rw [HF.out, HS.out, b1, b2]; rfl)]; rfl, (HB.out.alloc HB.out.size _)⟩
      · have b1 : decide (lo ≤ c) = true := decide_eq_true h1
        have b2 : decide (c ≤ hi) = false := decide_eq_false h2
        have HS2 := Lib.hid (show freeFrom c k = freeFrom c (k + 1) by rw [HS.out, b1, b2]; rfl)
        go_wp2
        go_roundw
        case rel => exact ⟨k + 1, by omega, by go_num, by rw [HF.out, HS2.out], (HB.out.alloc HB.out.size _)⟩
        case measure => simp [intOf]; omega
    · have b1 : decide (lo ≤ c) = false := decide_eq_false h1
      have HS2 := Lib.hid (show freeFrom c k = freeFrom c (k + 1) by rw [HS.out, b1]; rfl)
      go_wp2
      go_roundw
      case rel => exact ⟨k + 1, by omega, by go_num, by rw [HF.out, HS2.out], (HB.out.alloc HB.out.size _)⟩
      case measure => simp [intOf]; omega
  · obtain rfl : k = 5 := by omega
    go_wp2
    go_ret
    exact ⟨by rw [let_yes (by rw [HF.out]; rfl)]; rfl, HB.out⟩
end Go.Proofs.YtloccjkcmlkifaaDoor
end

section
/- utext.Check, by its contract. -/
namespace Go.Proofs.YtloccjkcmlkifaaDoor
open Go.RowKit Go.Proofs.YtloccjkcmlkifaaDoorW.PrintWords

theorem begins_spec (s : ByteArray) (pos : Nat) (c : Int) (h : pos ≤ s.size) : PBg.utext_begins.f s (pos : Int) c = some (okSeq s pos c) := by
 unfold PBg.utext_begins.f okSeq
 by_cases hc : c = 65533
 · rw [if_pos hc, if_pos hc, if_pos (by omega), if_pos (by omega)]
   unfold PBg.strings_HasPrefix.f PBg.stringslite_HasPrefix.f
   have h3 : ((⟨#[239, 191, 189]⟩ : ByteArray).size : Int) = 3 := rfl
   rw [h3, Int.toNat_natCast]
   by_cases hs : 3 ≤ (s.extract pos s.size).size
   · rw [if_pos hs, if_pos (by omega), if_pos (by omega), if_pos (by omega)]
     rfl
   · rw [if_neg hs, if_neg (by omega)]
     rfl
 · rw [if_neg hc, if_neg hc]

theorem run_next_at {P : Program} (W : World) (g : Nat) (s : ByteArray) (pos : Nat) (ty : TypeId) (hg : W.heap[g]? = some (.stringIter s pos)) (h : pos < s.size) :
 (Instr.next (.pointer (some ⟨g, 0, none⟩)) true ty).run P W = .ok (.tuple #[.bool true, .int .i64 pos, .int .i32 (Utf8.decode s pos).1]) { W with heap := W.heap.setIfInBounds g (.stringIter s (pos + (Utf8.decode s pos).2)) } := by
 simp only [Instr.next, getObj, setObj, Sem.run_bind, Sem.run, hg, Result.andThen, h, if_true]
 simp [goInt]
theorem run_next_over {P : Program} (W : World) (g : Nat) (s : ByteArray) (pos : Nat) (ty : TypeId) (hg : W.heap[g]? = some (.stringIter s pos)) (h : ¬ pos < s.size) :
 (Instr.next (.pointer (some ⟨g, 0, none⟩)) true ty).run P W = .ok (.tuple #[.bool false]) W := by
 simp [Instr.next, getObj, Sem.run, hg, h]
theorem iter_set {W : World} {g : Nat} {o o' : Obj} (hg : W.heap[g]? = some o) : ({ W with heap := W.heap.setIfInBounds g o' } : World).heap[g]? = some o' ∧ ∀ k, k ≠ g → ({ W with heap := W.heap.setIfInBounds g o' } : World).heap[k]? = W.heap[k]? := by
 have := (Array.getElem?_eq_some_iff.1 hg).1
 exact ⟨by simp [this], fun k hk => by simp [Ne.symm hk]⟩
theorem below_iter {B : Nat} {w W : World} {g : Nat} {o : Obj} (h : Below B w W) (hB : B ≤ g) : Below B w { W with heap := W.heap.setIfInBounds g o } :=
 ⟨h.os, h.tape, h.output, by simpa using h.size, fun k hk => by
  have : g ≠ k := by omega
  simp only [Array.getElem?_setIfInBounds, this, if_false]
  exact h.block k hk⟩

theorem below_dn {B : Nat} {w W : World} (h : Below B w W) (n : Nat) : Below B w (W.drewN n) := h.trans ⟨rfl, rfl, rfl, Nat.le_refl _, fun _ _ => rfl⟩
def ChkIs (s : ByteArray) (w : World) (e : Ending) (w' : World) : Prop := ∃ r1 r2 r3, chkFrom s s.size 0 0 = (r1, r2, r3) ∧ e = .returned (.tuple #[.int .i64 r1, .int .i64 r2, .int .i64 r3]) ∧ Below w.heap.size w w'

set_option maxHeartbeats 1600000 in
set_option maxRecDepth 100000 in
theorem check_any (s : ByteArray) (w : World) (hG : GW w) : Calls Tryd.prog 70 #[.string s] w (ChkIs s w) := by
 have HG := Lib.hid hG
 clear hG
 go_enter Tryd.func70, Tryd.ntmps70
 go_wp2
 go_loopw [5] (fun n wr => ∃ (pos f : Nat) (m : Int), n = .int .i64 m ∧ chkFrom s f pos m = chkFrom s s.size 0 0 ∧ s.size ≤ pos + f ∧ wr.heap[w.heap.size]? = some (.stringIter s pos) ∧ Below w.heap.size w wr) (fun _ wr => s.size - wr.iterPos w.heap.size)
 case atStart => exact ⟨0, s.size, 0, rfl, rfl, by omega, World.iter_heap _ _ _, (Below.refl _ _).alloc (Nat.le_refl _) _⟩
 case round =>
  obtain ⟨pos, f, m, rfl, hc, hf, hg, hb⟩ := hrel
  have hmeas : wr.iterPos w.heap.size = pos := by simp [World.iterPos, hg]
  have HM := Lib.hid hmeas
  have HC := Lib.hid hc
  have HB := Lib.hid hb
  have HGW := Lib.hid (HG.out.below hb)
  clear hc hb hmeas
  by_cases hp : pos < s.size
  · have hnx : ∀ ty, (Instr.next (.pointer (some ⟨w.heap.size, 0, none⟩)) true ty).run Tryd.prog wr = _ := fun ty => run_next_at wr w.heap.size s pos ty hg hp
    obtain ⟨W2, hW2⟩ : ∃ W2 : World, W2 = { wr with heap := wr.heap.setIfInBounds w.heap.size (.stringIter s (pos + (Utf8.decode s pos).2)) } := ⟨_, rfl⟩
    rw [← hW2] at hnx
    have hi2 := (iter_set (o' := .stringIter s (pos + (Utf8.decode s pos).2)) hg).1
    have hb2 := below_iter (o := .stringIter s (pos + (Utf8.decode s pos).2)) HB.out (Nat.le_refl _)
    rw [← hW2] at hi2 hb2
    have HI2 := Lib.hid hi2
    have HB2 := Lib.hid hb2
    have HG2 := Lib.hid (HG.out.below hb2)
    have hwd := width_pos s pos hp
    obtain ⟨F, rfl⟩ : ∃ F, f = F + 1 := ⟨f - 1, by omega⟩
    have hst : chkFrom s (F + 1) pos m = if okSeq s pos (Utf8.decode s pos).1 then (if okRune (Utf8.decode s pos).1 then chkFrom s F (pos + (Utf8.decode s pos).2) (wrap64 (m + 1)) else (0, pos, 11)) else (0, pos, 10) := by rw [chkFrom, if_pos hp]
    obtain ⟨c, hcc⟩ : ∃ c : Nat, c = (Utf8.decode s pos).1 := ⟨_, rfl⟩
    obtain ⟨n, hnn⟩ : ∃ n : Nat, n = (Utf8.decode s pos).2 := ⟨_, rfl⟩
    rw [← hcc, ← hnn] at hst
    rw [← hcc] at hnx
    rw [← hnn] at hwd HI2
    have HST := Lib.hid hst
    have HSQ := Lib.hid (begins_spec s pos (c : Int) (by omega))
    have HLT := Lib.hid (fun W (h : GW W) => letIn_any (c : Int) W h)
    clear hst hcc hW2 hi2 hb2 hg hnn
    obtain ⟨b1, hb1⟩ : ∃ b, b = okSeq s pos (c : Int) := ⟨_, rfl⟩
    obtain ⟨b2, hb2⟩ : ∃ b, b = okRune (c : Int) := ⟨_, rfl⟩
    rw [← hb1] at HSQ HST
    rw [← hb2] at HST
    have HB1 := Lib.hid hb1
    have HBB2 := Lib.hid hb2
    clear hb1 hb2
    cases b1 with
    | false =>
     go_wp2_with (go_at_call 88; refine (PBg.utext_begins.calls _ _ _ false _ HSQ.out).mono ?_; rintro e w' ⟨rfl, ⟨nd, rfl⟩⟩)
     refine bodyPost_ret (v := .tuple #[.int .i64 0, .int .i64 (pos : Int), .int .i64 10]) (by simp [results, Tryd.results70, go_sem]) rfl ⟨0, pos, 10, by rw [← HC.out, HST.out]; rfl, rfl, below_dn HB2.out _⟩
    | true =>
     cases b2 with
     | false =>
      go_wp2_with (first | (go_at_call 88; refine (PBg.utext_begins.calls _ _ _ true _ HSQ.out).mono ?_; rintro e w' ⟨rfl, ⟨nd, rfl⟩⟩) | (go_at_call 89; refine (HLT.out _ (by first | exact HG2.out | exact GW.drewN HG2.out _)).mono ?_; rintro e w3 ⟨rfl, hb3⟩; have HB3 := Lib.hid hb3; clear hb3; rw [← HBB2.out]))
      refine bodyPost_ret (v := .tuple #[.int .i64 0, .int .i64 (pos : Int), .int .i64 11]) (by simp [results, Tryd.results70, go_sem]) rfl ⟨0, pos, 11, by rw [← HC.out, HST.out]; rfl, rfl, (below_dn HB2.out _).trans (HB3.out.mono HB2.out.size)⟩
     | true =>
      go_wp2_with (first | (go_at_call 88; refine (PBg.utext_begins.calls _ _ _ true _ HSQ.out).mono ?_; rintro e w' ⟨rfl, ⟨nd, rfl⟩⟩) | (go_at_call 89; refine (HLT.out _ (by first | exact HG2.out | exact GW.drewN HG2.out _)).mono ?_; rintro e w3 ⟨rfl, hb3⟩; have HB3 := Lib.hid hb3; clear hb3; rw [← HBB2.out]))
      have h3 : w3.heap[w.heap.size]? = some (.stringIter s (pos + n)) := (HB3.out.block _ (Array.getElem?_eq_some_iff.1 HI2.out).1).trans HI2.out
      have H3 := Lib.hid h3
      clear h3
      go_roundw
      case rel => exact ⟨pos + n, F, _, rfl, by rw [← HC.out, HST.out]; rfl, by omega, H3.out, (below_dn HB2.out _).trans (HB3.out.mono HB2.out.size)⟩
      case measure =>
       have : w3.iterPos w.heap.size = pos + n := by simp [World.iterPos, H3.out]
       rw [this, HM.out]
       omega
  · have hnx : ∀ ty, (Instr.next (.pointer (some ⟨w.heap.size, 0, none⟩)) true ty).run Tryd.prog wr = _ := fun ty => run_next_over wr w.heap.size s pos ty hg hp
    go_wp2
    refine bodyPost_ret (v := .tuple #[.int .i64 m, .int .i64 0, .int .i64 0]) (by simp [results, Tryd.results70, go_sem]) rfl ⟨m, 0, 0, by rw [← HC.out, chk_end s f pos m hp], rfl, HB.out⟩

theorem utext_Check.calls (a0 : ByteArray) (r1 : Int) (r2 : Int) (r3 : Int) (w : World) (hG : GW w) (h : utext_Check.f a0 = some (r1, r2, r3)) :
 Calls Tryd.prog 70 #[.string a0] w fun e w' => e = .returned (.tuple #[.int .i64 r1, .int .i64 r2, .int .i64 r3]) ∧ Below w.heap.size w w' := by
 refine (check_any a0 w hG).mono ?_
 rintro e w' ⟨q1, q2, q3, hq, rfl, hb⟩
 unfold utext_Check.f at h
 rw [hq] at h
 cases h
 exact ⟨rfl, hb⟩
end Go.Proofs.YtloccjkcmlkifaaDoor
end
