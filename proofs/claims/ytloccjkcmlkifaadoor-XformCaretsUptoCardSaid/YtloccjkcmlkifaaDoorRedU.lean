/- Reading what comes in where it is of a bulk that a machine may hold: as 'Red', with the bound. -/
import Derived.Test.YtloccjkcmlkifaaDoorBulk
import Derived.Test.YtloccjkcmlkifaaDoorOpen
import Derived.Test.YtloccjkcmlkifaaDoorWMore
namespace Go.Proofs.YtloccjkcmlkifaaDoor
open Go.ChangeShapes Go.WideShapes Go.ChangeAt Go.RowKit Go.Proofs.YtloccjkcmlkifaaDoorW.PrintWords

def RedU {H : Type} (enc : TypeId × Value → H) (P : Program) (w : World) (t : TypeId) (cs : List Value) : Prop :=
  ∃ (fuel : Nat) (d : DataW H) (ps : List MemPlace), DataW.trod enc P w 0 (fun _ => true) true fuel t cs = some (d, ps) ∧ Rows.uptoBulk d ≤ 1048576

section
variable {H : Type} {enc : TypeId × Value → H} {P : Program} {w : World} {t : TypeId} {cs : List Value}

theorem redU_bool (ht : P.underlying t = some .bool) (h : RedU enc P w t cs) : ∃ b, cs = [.bool b] := by
  obtain ⟨fuel, d, ps, h, _⟩ := h
  obtain ⟨b, rfl, _⟩ := DataW.trod_bool ht h
  exact ⟨b, rfl⟩
theorem redU_int {k : IntKind} (ht : P.underlying t = some (.int k)) (h : RedU enc P w t cs) : ∃ n, cs = [.int k n] ∧ (Lit.int k n).wf = true := by
  obtain ⟨fuel, d, ps, h, _⟩ := h
  obtain ⟨n, rfl, _, hw⟩ := DataW.trod_int ht h
  exact ⟨n, rfl, hw⟩
theorem redU_string (ht : P.underlying t = some .string) (h : RedU enc P w t cs) : ∃ s : ByteArray, cs = [.string s] ∧ s.size ≤ 1048576 := by
  obtain ⟨fuel, d, ps, h, hw⟩ := h
  obtain ⟨s, rfl, hx, _⟩ := DataW.trod_string ht h
  simp only [Prod.mk.injEq] at hx
  obtain ⟨rfl, rfl⟩ := hx
  refine ⟨s, rfl, ?_⟩
  rw [bulks.string_eq] at hw
  have : s.data.toList.length = s.size := by rw [Array.length_toList]; rfl
  omega
theorem redU_slice {e : TypeId} (ht : P.underlying t = some (.slice e)) (hpos : 0 < P.cellsOf e) (h : RedU enc P w t cs) :
    ∃ (A : Option Addr) (n c : Nat), cs = [.slice A n c] ∧ n ≤ c ∧ c ≤ 1048576 ∧ (0 < c → ∃ b o, A = some ⟨b, o, none⟩ ∧ b < w.heap.size) ∧ (A = none → c = 0) ∧
      ∀ b o, A = some ⟨b, o, none⟩ → ∀ i, i < c → ∃ cs', cs'.length = P.cellsOf e ∧ (∀ j, j < P.cellsOf e → w.cell? ⟨b, o + (i * P.cellsOf e + j), none⟩ = cs'[j]?) ∧ RedU enc P w e cs' := by
  obtain ⟨fuel, d, ps, h, hw⟩ := h
  rcases Go.Deep.open_slice ht h with ⟨rfl, hx⟩ | ⟨a, len, cap, m, n, D, Pl, rfl, hb, hl, hm, hmm, hx, hcell⟩
  · exact ⟨none, 0, 0, rfl, Nat.le_refl _, by simp, fun h => absurd h (by omega), fun _ => rfl, fun b o h => by cases h⟩
  · simp only [if_true] at hmm
    subst hmm
    simp only [Prod.mk.injEq] at hx
    obtain ⟨rfl, rfl⟩ := hx
    have hsz := Nat.le_trans (bulks.slice_le _ _) hw
    simp only [List.length_map, List.length_range] at hsz
    have hspot : 0 < m → a.spot = none ∧ a.block < w.heap.size := by
      intro hc
      obtain ⟨cs', h1, _⟩ := hcell 0 hc
      obtain ⟨_, hlen, hi⟩ := World.cells?_some h1
      have h0 := hi 0 hpos
      rw [List.getElem?_eq_getElem (by omega)] at h0
      simp only [Nat.zero_mul, Addr.add, if_true] at h0
      refine ⟨?_, World.block_lt_of_cell? w _ h0⟩
      unfold World.cell? at h0
      split at h0
      · split at h0
        · cases h0
        · rename_i hs
          cases hsp : a.spot with
          | none => rfl
          | some _ => simp [hsp] at hs
      · cases h0
    refine ⟨some a, len, m, rfl, hl, by omega, ?_, (fun h => by cases h), ?_⟩
    · intro hc
      obtain ⟨h1, h2⟩ := hspot hc
      exact ⟨a.block, a.off, by cases a; simp_all, h2⟩
    · intro b o hA i hi
      cases hA
      obtain ⟨cs', h1, h2⟩ := hcell i hi
      obtain ⟨_, hlen, hj⟩ := World.cells?_some h1
      refine ⟨cs', hlen, fun j hjl => ?_, n, D i, Pl i, h2, ?_⟩
      · have := hj j hjl
        rw [← this]
        congr 1
        unfold Addr.add
        by_cases h0 : i * P.cellsOf e = 0 <;> by_cases h3 : j = 0 <;> simp [h0, h3, Nat.add_assoc]
      · simp only [Rows.uptoBulk] at hw
        by_cases hil : i < len
        · have := bulks.part_le (List.mem_map.2 ⟨i, List.mem_range.2 hil, rfl⟩ : D i ∈ (List.range len).map D)
          omega
        · have := bulks.part_le (List.mem_map.2 ⟨i - len, List.mem_range.2 (by omega), by congr 1; omega⟩ : D i ∈ (List.range (m - len)).map fun i => D (len + i))
          omega
theorem redU_struct {fs : Array Field} (ht : P.underlying t = some (.struct fs)) (h : RedU enc P w t cs) :
    cs.length = P.cellsOf t ∧ ∀ (i : Nat) (f : Field), fs[i]? = some f → RedU enc P w f.type ((cs.drop f.offset).take (P.cellsOf f.type)) := by
  obtain ⟨fuel, d, ps, h, hw⟩ := h
  obtain ⟨xs, n, _, hx, hlen, hxs, hf⟩ := DataW.trod_struct ht h
  simp only [Prod.mk.injEq] at hx
  obtain ⟨rfl, rfl⟩ := hx
  refine ⟨hlen, fun i f hi => ?_⟩
  have hi' : i < xs.length := by rw [hxs]; exact (Array.getElem?_eq_some_iff.1 hi).1
  have h1 := hf i f hi
  rw [List.getElem?_eq_getElem hi'] at h1
  refine ⟨n, xs[i].1, xs[i].2, h1, ?_⟩
  simp only [Rows.uptoBulk] at hw
  have := bulks.part_le (List.mem_map.2 ⟨xs[i], List.getElem_mem hi', rfl⟩ : xs[i].1 ∈ xs.map fun x => x.1)
  omega
theorem redU_array {n : Nat} {e : TypeId} (ht : P.underlying t = some (.array n e)) (h : RedU enc P w t cs) :
    cs.length = P.cellsOf t ∧ ∀ i, i < n → RedU enc P w e ((cs.drop (i * P.cellsOf e)).take (P.cellsOf e)) := by
  obtain ⟨fuel, d, ps, h, hw⟩ := h
  obtain ⟨xs, m, _, hx, hlen, hxs, hf⟩ := DataW.trod_array ht h
  simp only [Prod.mk.injEq] at hx
  obtain ⟨rfl, rfl⟩ := hx
  refine ⟨hlen, fun i hi => ?_⟩
  have hi' : i < xs.length := by omega
  have h1 := hf i hi
  rw [List.getElem?_eq_getElem hi'] at h1
  refine ⟨m, xs[i].1, xs[i].2, h1, ?_⟩
  simp only [Rows.uptoBulk] at hw
  have := bulks.part_le (List.mem_map.2 ⟨xs[i], List.getElem_mem hi', rfl⟩ : xs[i].1 ∈ xs.map fun x => x.1)
  omega

theorem redU_all : ∀ (ts : List TypeId) (vs : List Value) (ds : List (DataW H)) (ps : List MemPlace), DataW.TrodAll enc P w 0 (fun _ => true) true ts vs ds ps → Rows.uptoBulkAll ds ≤ 1048576 →
    vs.length = ts.length ∧ ∀ (j : Nat) t v, ts[j]? = some t → vs[j]? = some v → RedU enc P w t v.cells.toList := by
  intro ts
  induction ts with
  | nil =>
    intro vs ds ps h _
    cases vs <;> cases ds <;> simp_all [DataW.TrodAll]
  | cons t ts ih =>
    intro vs ds ps h hw
    cases vs with
    | nil => cases ds <;> simp [DataW.TrodAll] at h
    | cons v vs =>
      cases ds with
      | nil => simp [DataW.TrodAll] at h
      | cons d ds =>
        obtain ⟨p, q, ⟨fuel, h1⟩, h2, rfl⟩ := h
        simp only [Rows.uptoBulkAll] at hw
        obtain ⟨hl, hr⟩ := ih vs ds q h2 (by omega)
        refine ⟨by simp [hl], fun j t' v' ht' hv' => ?_⟩
        cases j with
        | zero =>
          simp at ht' hv'
          subst ht' hv'
          exact ⟨fuel, d, p, h1, by omega⟩
        | succ j =>
          simp at ht' hv'
          exact hr j t' v' ht' hv'

theorem redU_row {α : Type} {e : TypeId} (d : Kd α) (z : α) (good : α → Prop) (ht : P.underlying t = some (.slice e)) (hc : P.cellsOf e = d.sz) (hpos : 0 < d.sz) (he : ∀ cs', RedU enc P w e cs' → ∃ x, d.K w x cs' ∧ good x) (h : RedU enc P w t cs) :
    ∃ (A : Option Addr) (c : Nat) (l : List α), cs = [.slice A l.length c] ∧ l.length ≤ c ∧ c ≤ 1048576 ∧ d.C w A l.length l ∧ ∀ x ∈ l, good x := by
  obtain ⟨A, n, c, rfl, h1, h2, h3, h4, h5⟩ := redU_slice ht (by omega) h
  rw [hc] at h5
  have hf : ∀ i, i < n → ∃ x : α, (∃ b o, A = some ⟨b, o, none⟩ ∧ ∃ cs', cs'.length = d.sz ∧ (∀ j, j < d.sz → w.cell? ⟨b, o + (i * d.sz + j), none⟩ = cs'[j]?) ∧ d.K w x cs') ∧ good x := by
    intro i hi
    obtain ⟨b, o, hA, hb⟩ := h3 (by omega)
    obtain ⟨cs', hl, hcell, hr⟩ := h5 b o hA i (by omega)
    obtain ⟨x, hx, hg⟩ := he cs' hr
    exact ⟨x, ⟨b, o, hA, cs', hl, hcell, hx⟩, hg⟩
  have hf2 : ∀ i, ∃ x : α, i < n → (∃ b o, A = some ⟨b, o, none⟩ ∧ ∃ cs', cs'.length = d.sz ∧ (∀ j, j < d.sz → w.cell? ⟨b, o + (i * d.sz + j), none⟩ = cs'[j]?) ∧ d.K w x cs') ∧ good x := by
    intro i
    by_cases hi : i < n
    · obtain ⟨x, hx⟩ := hf i hi
      exact ⟨x, fun _ => hx⟩
    · exact ⟨z, fun h => absurd h hi⟩
  obtain ⟨f, hf3⟩ := Classical.axiomOfChoice hf2
  refine ⟨A, c, (List.range n).map f, by simp, by simpa using h1, h2, ?_, ?_⟩
  · refine ⟨by simp, by simp; omega, fun hn => ?_⟩
    have hn' : 0 < n := by simpa using hn
    obtain ⟨b, o, hA, hb⟩ := h3 (by omega)
    refine ⟨⟨b, o, none⟩, hA, fun j p hp => ?_⟩
    obtain ⟨hj, rfl⟩ := List.getElem?_eq_some_iff.1 hp
    have hj' : j < n := by simpa using hj
    obtain ⟨⟨b', o', hA', cs', hl, hcell, hK⟩, _⟩ := hf3 j hj'
    rw [hA] at hA'
    cases hA'
    refine ⟨cs', hl, by simpa using hK, fun i u hu => ?_⟩
    have hi : i < d.sz := by rw [← hl]; exact (List.getElem?_eq_some_iff.1 hu).1
    have e : (⟨b, o, none⟩ : Addr).add (j * d.sz + i) = ⟨b, o + (j * d.sz + i), none⟩ := by
      unfold Addr.add
      split
      · rename_i h0; rw [h0, Nat.add_zero]
      · rfl
    rw [e, hcell i hi, hu]
  · intro x hx
    obtain ⟨i, hi, rfl⟩ := List.mem_map.1 hx
    exact (hf3 i (List.mem_range.1 hi)).2
end
end Go.Proofs.YtloccjkcmlkifaaDoor

