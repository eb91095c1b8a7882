/- Reading what comes in: 'Red': the cells cs read as a value of type t in memory w, each slice and string of it within the form's reach. It is opened type by type; no datum is left to carry. For any program. -/
import Derived.WalkKit
import Derived.ProofKit
import Derived.OpenShut
import Derived.SizedLaws
import Derived.Deep.Slices
namespace Go.Proofs.Ytejlpdcoaejciaa
open Go.ChangeShapes Go.WideShapes Go.ChangeAt Go.RowKit

def Red {H : Type} (enc : TypeId × Value → H) (P : Program) (w : World) (t : TypeId) (cs : List Value) : Prop :=
  ∃ (fuel : Nat) (d : DataW H) (ps : List MemPlace), DataW.trod enc P w 0 (fun _ => true) true fuel t cs = some (d, ps) ∧ (d.weights P t).all (· ≤ reachBytes) = true

section
variable {H : Type} {enc : TypeId × Value → H} {P : Program} {w : World} {t : TypeId} {cs : List Value}

theorem red_bool (ht : P.underlying t = some .bool) (h : Red enc P w t cs) : ∃ b, cs = [.bool b] := by
  obtain ⟨fuel, d, ps, h, _⟩ := h
  obtain ⟨b, rfl, _⟩ := DataW.trod_bool ht h
  exact ⟨b, rfl⟩

theorem red_int {k : IntKind} (ht : P.underlying t = some (.int k)) (h : Red enc P w t cs) : ∃ n, cs = [.int k n] ∧ (Lit.int k n).wf = true := by
  obtain ⟨fuel, d, ps, h, _⟩ := h
  obtain ⟨n, rfl, _, hw⟩ := DataW.trod_int ht h
  exact ⟨n, rfl, hw⟩

theorem red_string (ht : P.underlying t = some .string) (h : Red enc P w t cs) : ∃ s : ByteArray, cs = [.string s] ∧ s.size ≤ 140737488351232 := by
  obtain ⟨fuel, d, ps, h, hw⟩ := h
  obtain ⟨s, rfl, hx, _⟩ := DataW.trod_string ht h
  simp only [Prod.mk.injEq] at hx
  obtain ⟨rfl, rfl⟩ := hx
  refine ⟨s, rfl, ?_⟩
  simp only [DataW.weights, List.all_cons, List.all_nil, Bool.and_true, decide_eq_true_eq] at hw
  have : s.data.toList.length = s.size := by rw [Array.length_toList]; rfl
  rw [this] at hw
  exact hw

theorem weightsAll_mem {e : TypeId} {l : List (DataW H)} {d : DataW H} (hd : d ∈ l) {x : Nat} (hx : x ∈ d.weights P e) : x ∈ DataW.weightsAll P e l := by
  induction l with
  | nil => cases hd
  | cons a l ih =>
    simp only [DataW.weightsAll, List.mem_append]
    rcases List.mem_cons.1 hd with rfl | h
    · exact .inl hx
    · exact .inr (ih h)

theorem red_slice {e : TypeId} (ht : P.underlying t = some (.slice e)) (hpos : 0 < P.cellsOf e) (h : Red enc P w t cs) :
    ∃ (A : Option Addr) (n c : Nat), cs = [.slice A n c] ∧ n ≤ c ∧ c * P.bytesOf e ≤ 140737488351232 ∧ (0 < c → ∃ b o, A = some ⟨b, o, none⟩ ∧ b < w.heap.size) ∧ (A = none → c = 0) ∧
      ∀ b o, A = some ⟨b, o, none⟩ → ∀ i, i < c → ∃ cs', cs'.length = P.cellsOf e ∧ (∀ j, j < P.cellsOf e → w.cell? ⟨b, o + (i * P.cellsOf e + j), none⟩ = cs'[j]?) ∧ Red enc P w e cs' := by
  obtain ⟨fuel, d, ps, h, hw⟩ := h
  rcases Go.Deep.open_slice ht h with ⟨rfl, hx⟩ | ⟨a, len, cap, m, n, D, Pl, rfl, hb, hl, hm, hmm, hx, hcell⟩
  · exact ⟨none, 0, 0, rfl, Nat.le_refl _, by simp, fun h => absurd h (by omega), fun _ => rfl, fun b o h => by cases h⟩
  · simp only [if_true] at hmm
    subst hmm
    simp only [Prod.mk.injEq] at hx
    obtain ⟨rfl, rfl⟩ := hx
    simp only [DataW.weights, ht, List.all_cons, Bool.and_eq_true, decide_eq_true_eq, List.length_map, List.length_range] at hw
    obtain ⟨hw1, hw2⟩ := hw
    have hspot : 0 < m → a.spot = none ∧ a.block < w.heap.size := by
      intro hc
      obtain ⟨cs', h1, _⟩ := hcell 0 hc
      obtain ⟨_, hlen, hi⟩ := World.cells?_some h1
      have h0 := hi 0 hpos
      rw [List.getElem?_eq_getElem (by omega)] at h0
      simp only [Nat.zero_mul, Addr.add, if_true] at h0
      refine ⟨?_, World.block_lt_of_cell? w _ h0⟩
      unfold World.cell? at h0
      split at h0
      · split at h0
        · cases h0
        · rename_i hs
          cases hsp : a.spot with
          | none => rfl
          | some _ => simp [hsp] at hs
      · cases h0
    refine ⟨some a, len, m, rfl, hl, ?_, ?_, (fun h => by cases h), ?_⟩
    · have : len + (m - len) = m := by omega
      rw [this] at hw1
      exact hw1
    · intro hc
      obtain ⟨h1, h2⟩ := hspot hc
      exact ⟨a.block, a.off, by cases a; simp_all, h2⟩
    · intro b o hA i hi
      cases hA
      obtain ⟨cs', h1, h2⟩ := hcell i hi
      obtain ⟨_, hlen, hj⟩ := World.cells?_some h1
      refine ⟨cs', hlen, fun j hjl => ?_, n, D i, Pl i, h2, ?_⟩
      · have := hj j hjl
        rw [← this]
        congr 1
        unfold Addr.add
        by_cases h0 : i * P.cellsOf e = 0 <;> by_cases h3 : j = 0 <;> simp [h0, h3, Nat.add_assoc]
      · rw [List.all_eq_true]
        intro x hx
        refine List.all_eq_true.1 hw2 x ?_
        rw [List.mem_append]
        by_cases hil : i < len
        · exact .inl (weightsAll_mem (List.mem_map.2 ⟨i, List.mem_range.2 hil, rfl⟩) hx)
        · exact .inr (weightsAll_mem (List.mem_map.2 ⟨i - len, List.mem_range.2 (by omega), by congr 1; omega⟩) hx)

theorem red_struct {fs : Array Field} (ht : P.underlying t = some (.struct fs)) (h : Red enc P w t cs) :
    cs.length = P.cellsOf t ∧ ∀ (i : Nat) (f : Field), fs[i]? = some f → Red enc P w f.type ((cs.drop f.offset).take (P.cellsOf f.type)) := by
  obtain ⟨fuel, d, ps, h, hw⟩ := h
  obtain ⟨xs, n, _, hx, hlen, hxs, hf⟩ := DataW.trod_struct ht h
  simp only [Prod.mk.injEq] at hx
  obtain ⟨rfl, rfl⟩ := hx
  refine ⟨hlen, fun i f hi => ?_⟩
  have hi' : i < xs.length := by rw [hxs]; exact (Array.getElem?_eq_some_iff.1 hi).1
  have h1 := hf i f hi
  rw [List.getElem?_eq_getElem hi'] at h1
  refine ⟨n, xs[i].1, xs[i].2, h1, ?_⟩
  simp only [DataW.weights, ht] at hw
  rw [List.all_eq_true] at hw ⊢
  intro x hxm
  refine hw x (DataW.weights_mem_each (j := i) (t := f.type) (d := xs[i].1) ?_ ?_ x hxm)
  · rw [List.getElem?_map, Array.getElem?_toList, hi]; rfl
  · rw [List.getElem?_map, List.getElem?_eq_getElem hi']; rfl

theorem red_array {n : Nat} {e : TypeId} (ht : P.underlying t = some (.array n e)) (h : Red enc P w t cs) :
    cs.length = P.cellsOf t ∧ ∀ i, i < n → Red enc P w e ((cs.drop (i * P.cellsOf e)).take (P.cellsOf e)) := by
  obtain ⟨fuel, d, ps, h, hw⟩ := h
  obtain ⟨xs, m, _, hx, hlen, hxs, hf⟩ := DataW.trod_array ht h
  simp only [Prod.mk.injEq] at hx
  obtain ⟨rfl, rfl⟩ := hx
  refine ⟨hlen, fun i hi => ?_⟩
  have hi' : i < xs.length := by omega
  have h1 := hf i hi
  rw [List.getElem?_eq_getElem hi'] at h1
  refine ⟨m, xs[i].1, xs[i].2, h1, ?_⟩
  simp only [DataW.weights, ht] at hw
  rw [List.all_eq_true] at hw ⊢
  intro x hxm
  exact hw x (weightsAll_mem (List.mem_map.2 ⟨xs[i], List.getElem_mem hi', rfl⟩) hxm)

theorem red_all : ∀ (ts : List TypeId) (vs : List Value) (ds : List (DataW H)) (ps : List MemPlace), DataW.TrodAll enc P w 0 (fun _ => true) true ts vs ds ps →
    (DataW.weightsEach P ts ds).all (· ≤ reachBytes) = true → vs.length = ts.length ∧ ∀ (j : Nat) t v, ts[j]? = some t → vs[j]? = some v → Red enc P w t v.cells.toList := by
  intro ts
  induction ts with
  | nil =>
    intro vs ds ps h _
    cases vs <;> cases ds <;> simp_all [DataW.TrodAll]
  | cons t ts ih =>
    intro vs ds ps h hw
    cases vs with
    | nil => cases ds <;> simp [DataW.TrodAll] at h
    | cons v vs =>
      cases ds with
      | nil => simp [DataW.TrodAll] at h
      | cons d ds =>
        obtain ⟨p, q, ⟨fuel, h1⟩, h2, rfl⟩ := h
        simp only [DataW.weightsEach, List.all_append, Bool.and_eq_true] at hw
        obtain ⟨hl, hr⟩ := ih vs ds q h2 hw.2
        refine ⟨by simp [hl], fun j t' v' ht' hv' => ?_⟩
        cases j with
        | zero =>
          simp at ht' hv'
          subst ht' hv'
          exact ⟨fuel, d, p, h1, hw.1⟩
        | succ j =>
          simp at ht' hv'
          exact hr j t' v' ht' hv'

theorem okWide_agg_arr {n : Nat} {e : TypeId} {r : Reach} {base : Nat} {v : Value} (ht : P.underlying t = some (.array n e)) (h : Value.okWide P w r base t v) : ∃ cs, v = .agg cs ∧ cs.size = P.cellsOf t := by
  simp only [Value.okWide, ht] at h
  obtain ⟨cs, rfl, hs, _⟩ := h
  exact ⟨cs, rfl, hs⟩
theorem okWide_agg_st {fs : Array Field} {r : Reach} {base : Nat} {v : Value} (ht : P.underlying t = some (.struct fs)) (h : Value.okWide P w r base t v) : ∃ cs, v = .agg cs ∧ cs.size = P.cellsOf t := by
  simp only [Value.okWide, ht] at h
  obtain ⟨cs, rfl, hs, _⟩ := h
  exact ⟨cs, rfl, hs⟩
end
theorem args0 {args : Array Value} (h : args.size = 0) : args = #[] := by cases args with | mk l => cases l <;> simp_all
theorem args1 {args : Array Value} (h : args.size = 1) : ∃ a, args = #[a] := by
  obtain ⟨l⟩ := args
  match l, h with
  | [a], _ => exact ⟨a, rfl⟩
theorem args2 {args : Array Value} (h : args.size = 2) : ∃ a b, args = #[a, b] := by
  obtain ⟨l⟩ := args
  match l, h with
  | [a, b], _ => exact ⟨a, b, rfl⟩
theorem args3 {args : Array Value} (h : args.size = 3) : ∃ a b c, args = #[a, b, c] := by
  obtain ⟨l⟩ := args
  match l, h with
  | [a, b, c], _ => exact ⟨a, b, c, rfl⟩
theorem args4 {args : Array Value} (h : args.size = 4) : ∃ a b c d, args = #[a, b, c, d] := by
  obtain ⟨l⟩ := args
  match l, h with
  | [a, b, c, d], _ => exact ⟨a, b, c, d, rfl⟩
end Go.Proofs.Ytejlpdcoaejciaa
