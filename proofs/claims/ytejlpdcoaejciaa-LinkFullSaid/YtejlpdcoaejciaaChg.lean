/- What a call changes of old memory: the blocks of a set. For any program. -/
import Derived.Test.YtejlpdcoaejciaaByteses
namespace Go.Proofs.Ytejlpdcoaejciaa
open Go.RowKit

/-- Of the blocks of w those of S may have turned; new ones may have come. -/
structure Chg (S : Nat → Prop) (w w' : World) : Prop where
  os : w'.os = w.os
  tape : w'.tape = w.tape
  output : w'.output = w.output
  size : w.heap.size ≤ w'.heap.size
  block : ∀ k, k < w.heap.size → ¬ S k → w'.heap[k]? = w.heap[k]?

theorem Chg.refl (S : Nat → Prop) (w : World) : Chg S w w := ⟨rfl, rfl, rfl, Nat.le_refl _, fun _ _ _ => rfl⟩
theorem Chg.trans {S : Nat → Prop} {a b c : World} (h : Chg S a b) (k : Chg S b c) : Chg S a c :=
  ⟨k.os.trans h.os, k.tape.trans h.tape, k.output.trans h.output, Nat.le_trans h.size k.size, fun i hi hs => (k.block i (Nat.lt_of_lt_of_le hi h.size) hs).trans (h.block i hi hs)⟩
theorem Chg.mono {S S' : Nat → Prop} {w w' : World} (h : Chg S w w') (hs : ∀ k, k < w.heap.size → S k → S' k) : Chg S' w w' :=
  ⟨h.os, h.tape, h.output, h.size, fun i hi hn => h.block i hi fun c => hn (hs i hi c)⟩
/-- The second step may also turn what the first one made. -/
theorem Chg.trans' {S S' : Nat → Prop} {a b c : World} (h : Chg S a b) (k : Chg S' b c) (hs : ∀ i, i < a.heap.size → S' i → S i) : Chg S a c :=
  ⟨k.os.trans h.os, k.tape.trans h.tape, k.output.trans h.output, Nat.le_trans h.size k.size, fun i hi hn => (k.block i (Nat.lt_of_lt_of_le hi h.size) fun c => hn (hs i hi c)).trans (h.block i hi hn)⟩
theorem Chg.ofBelow {S : Nat → Prop} {w w' : World} (h : Below w.heap.size w w') : Chg S w w' := ⟨h.os, h.tape, h.output, h.size, fun k hk _ => h.block k hk⟩
theorem Chg.toBelow {S : Nat → Prop} {w w' : World} {B : Nat} (h : Chg S w w') (hB : B ≤ w.heap.size) (hs : ∀ k, S k → B ≤ k) : Below B w w' :=
  ⟨h.os, h.tape, h.output, h.size, fun k hk => h.block k (by omega) fun c => by have := hs k c; omega⟩
theorem Chg.below {S : Nat → Prop} {a b c : World} (h : Chg S a b) (k : Below b.heap.size b c) : Chg S a c := h.trans (Chg.ofBelow k)
theorem Chg.setCell {S : Nat → Prop} {a w : World} (h : Chg S a w) {p : Addr} (hp : S p.block ∨ a.heap.size ≤ p.block) (u : Value) : Chg S a (w.setCell p u) :=
  ⟨h.os, h.tape, h.output, by rw [World.size_setCell]; exact h.size, fun k hk hn => (Below.heap_setCell _ _ _ _ (fun e => by rcases hp with c | c; (exact hn (e ▸ c)); omega)).trans (h.block k hk hn)⟩
theorem Chg.grown {S : Nat → Prop} {a w w' : World} {row : Option Nat} (h : Chg S a w) (hg : w.grownBy w' row) (hr : ∀ k, row = some k → S k ∨ a.heap.size ≤ k) : Chg S a w' :=
  ⟨hg.os.trans h.os, hg.tape.trans h.tape, hg.output.trans h.output, Nat.le_trans h.size hg.size, fun k hk hn =>
    (hg.block k (Nat.lt_of_lt_of_le hk h.size) (fun e => by rcases hr k e.symm with c | c; (exact hn c); omega)).trans (h.block k hk hn)⟩
theorem Chg.alloc {S : Nat → Prop} {a w : World} (h : Chg S a w) (o : Obj) : Chg S a (w.alloc o) := h.below ((Below.refl _ _).alloc (Nat.le_refl _) o)
theorem Chg.drew {S : Nat → Prop} {a w : World} (h : Chg S a w) : Chg S a w.drew := ⟨h.os, h.tape, h.output, h.size, h.block⟩
theorem Chg.cell {S : Nat → Prop} {w w' : World} (h : Chg S w w') {p : Addr} (hp : p.block < w.heap.size) (hs : ¬ S p.block) : w'.cell? p = w.cell? p := World.cell?_of_block (w := w) (h.block p.block hp hs)

/-- What is owned, and lies in no block that may turn, is owned. -/
theorem own_chg {S : Nat → Prop} {w w' : World} {base : Nat} {e : TypeId} {size : Nat} {v : Value} {n : Nat} {xs : List Value} (h : w.ownsRow base e size v n xs) (hc : Chg S w w') (hs : ∀ k, v.ownBlock = some k → ¬ S k) : w'.ownsRow base e size v n xs := by
  refine ⟨h.1, ?_⟩
  rcases h.2 with h0 | ⟨g, cap, cur, rfl, hbg, hg, r⟩
  · exact .inl h0
  · exact .inr ⟨g, cap, cur, rfl, hbg, (hc.block g (Array.getElem?_eq_some_iff.1 hg).1 (hs g rfl)).trans hg, r⟩
theorem own_ne {w : World} {base : Nat} {e : TypeId} {size : Nat} {v : Value} {n : Nat} {xs : List Value} (h : w.ownsRow base e size v n xs) {g : Nat} {cs : Array Value} {t : TypeId} {fr : Nat × Nat} (hg : w.heap[g]? = some (.cells cs t fr)) (hne : e ≠ t) : v.ownBlock ≠ some g := by
  rcases h.2 with ⟨rfl, _⟩ | ⟨k, cap, cur, rfl, _, hk, _⟩
  · simp [Value.ownBlock]
  · intro e1
    have : k = g := by simpa [Value.ownBlock] using e1
    subst this
    rw [hk] at hg
    simp at hg
    exact hne hg.2.1
theorem own_set {w : World} {base : Nat} {e : TypeId} {size : Nat} {v : Value} {n : Nat} {xs : List Value} (h : w.ownsRow base e size v n xs) {p : Addr} (hp : v.ownBlock ≠ some p.block) (u : Value) : (w.setCell p u).ownsRow base e size v n xs :=
  own_chg (S := fun k => k = p.block) h (Chg.setCell (p := p) (S := fun k => k = p.block) (Chg.refl _ _) (.inl rfl) u) fun k hk e => hp (by rw [hk, e])

/-- Rows of the call's own, each in a block of its own. -/
def OwnAll (w : World) (base : Nat) (e : TypeId) (xs : List Value) (ls : List (List UInt8)) : Prop :=
  xs.length = ls.length ∧ (∀ i x, xs[i]? = some x → w.ownsRow base e 1 x (ls.getD i []).length (vals (ls.getD i []))) ∧ xs.Pairwise Apart
theorem OwnAll.nil (w : World) (base : Nat) (e : TypeId) : OwnAll w base e [] [] := ⟨rfl, fun i x h => by simp at h, List.Pairwise.nil⟩
theorem OwnAll.chg {S : Nat → Prop} {w w' : World} {base : Nat} {e : TypeId} {xs : List Value} {ls : List (List UInt8)} (h : OwnAll w base e xs ls) (hc : Chg S w w') (hs : ∀ x ∈ xs, ∀ k, x.ownBlock = some k → ¬ S k) : OwnAll w' base e xs ls :=
  ⟨h.1, fun i x hx => own_chg (h.2.1 i x hx) hc (hs x (List.mem_of_getElem? hx)), h.2.2⟩
theorem OwnAll.kept {w w' : World} {base : Nat} {e : TypeId} {xs : List Value} {ls : List (List UInt8)} (h : OwnAll w base e xs ls) (hb : Below w.heap.size w w') : OwnAll w' base e xs ls :=
  ⟨h.1, fun i x hx => own_kept (h.2.1 i x hx) hb, h.2.2⟩
theorem OwnAll.mono {w : World} {base base' : Nat} {e : TypeId} {xs : List Value} {ls : List (List UInt8)} (h : OwnAll w base e xs ls) (hb : base' ≤ base) : OwnAll w base' e xs ls :=
  ⟨h.1, fun i x hx => World.ownsRow.mono (h.2.1 i x hx) hb, h.2.2⟩
theorem OwnAll.isBytes {w : World} {base : Nat} {e : TypeId} {xs : List Value} {ls : List (List UInt8)} (h : OwnAll w base e xs ls) : ∀ i x, xs[i]? = some x → IsBytes w x (ls.getD i []) := fun i x hx => IsBytes.own (h.2.1 i x hx)
theorem OwnAll.lt {w : World} {base : Nat} {e : TypeId} {xs : List Value} {ls : List (List UInt8)} (h : OwnAll w base e xs ls) : ∀ x ∈ xs, ∀ k, x.ownBlock = some k → base ≤ k ∧ k < w.heap.size := by
  intro x hx k hk
  obtain ⟨i, hi, rfl⟩ := List.mem_iff_getElem.1 hx
  exact (h.2.1 i _ (List.getElem?_eq_getElem hi)).lt k hk
theorem OwnAll.append {w : World} {base : Nat} {e : TypeId} {xs ys : List Value} {ls ms : List (List UInt8)} (h : OwnAll w base e xs ls) (k : OwnAll w base e ys ms) (ha : ∀ x ∈ xs, ∀ y ∈ ys, Apart x y) : OwnAll w base e (xs ++ ys) (ls ++ ms) := by
  refine ⟨by rw [List.length_append, List.length_append, h.1, k.1], fun i x hx => ?_, List.pairwise_append.2 ⟨h.2.2, k.2.2, ha⟩⟩
  by_cases hi : i < xs.length
  · rw [List.getElem?_append_left hi] at hx
    rw [List.getD_eq_getElem?_getD, List.getElem?_append_left (by rw [← h.1]; exact hi), ← List.getD_eq_getElem?_getD]
    exact h.2.1 i x hx
  · rw [List.getElem?_append_right (by omega)] at hx
    rw [List.getD_eq_getElem?_getD, List.getElem?_append_right (by rw [← h.1]; omega), ← h.1, ← List.getD_eq_getElem?_getD]
    exact k.2.1 _ x hx
theorem OwnAll.one {w : World} {base : Nat} {e : TypeId} {v : Value} {l : List UInt8} (h : w.ownsRow base e 1 v l.length (vals l)) : OwnAll w base e [v] [l] := by
  refine ⟨rfl, fun i x hx => ?_, List.pairwise_singleton _ _⟩
  cases i with
  | zero => cases hx; exact h
  | succ i => simp at hx
/-- What lies in a block that came later lies apart. -/
theorem Apart.fresh {w : World} {base : Nat} {e : TypeId} {size n : Nat} {u v : Value} {xs : List Value} (hu : w.ownsRow base e size u n xs) (hv : ∀ k, v.ownBlock = some k → w.heap.size ≤ k) : Apart u v := by
  unfold Apart
  cases hu0 : u.ownBlock with
  | none => exact .inl rfl
  | some k =>
    right
    intro e
    have := (hu.lt k hu0).2
    have := hv k e.symm
    omega
theorem Apart.freshAll {w : World} {base : Nat} {e : TypeId} {xs : List Value} {ls : List (List UInt8)} {v : Value} (h : OwnAll w base e xs ls) (hv : ∀ k, v.ownBlock = some k → w.heap.size ≤ k) : ∀ x ∈ xs, Apart x v := by
  intro x hx
  obtain ⟨i, hi, rfl⟩ := List.mem_iff_getElem.1 hx
  exact Apart.fresh (h.2.1 i _ (List.getElem?_eq_getElem hi)) hv
theorem Apart.ne {u v : Value} (h : Apart u v) : ∀ k, u.ownBlock = some k → ¬ v.ownBlock = some k := by
  intro k hk e
  rcases h with h | h
  · rw [hk] at h; cases h
  · exact h (hk.trans e.symm)
theorem grown_chg {w w' : World} {row : Option Nat} (hg : w.grownBy w' row) : Chg (fun k => row = some k) w w' := (Chg.refl _ _).grown hg fun _ hk => .inl hk
end Go.Proofs.Ytejlpdcoaejciaa
