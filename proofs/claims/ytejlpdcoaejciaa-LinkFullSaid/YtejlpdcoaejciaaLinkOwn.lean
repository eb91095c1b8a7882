/- link.own, link.copied, by their contracts. -/
import Derived.Test.YtejlpdcoaejciaaOwn
import Derived.Test.YtejlpdcoaejciaaLater
import Derived.Test.YtejlpdcoaejciaaChg
import Derived.Test.YtejlpdcoaejciaaApp
import Derived.Laws.CopyOwn
import Derived.Deep.OwnRows
namespace Go.Proofs.Ytejlpdcoaejciaa
open Go.RowKit

theorem u8info16 : (Try.prog.info? 5).map (fun i => (i.zero, i.size, i.bytes)) = some (some (.int .u8 0), 1, 1) := by kernel_rfl
theorem u8size16 : (Try.prog.info? 5).map (·.size) = some 1 := by kernel_rfl

theorem stop_wp {P : Program} {ops : Array Oper} {Q : Exit → Act → World → Prop} {rest : List Oper} {o : Oper} {a : Act} {w : World} (h : Hid (wpList P ops Q (o :: rest) a w)) : wpList P ops Q (o :: rest) a w := h

set_option maxRecDepth 100000 in
theorem own16_any (A : Option Addr) (c : Nat) (l : List UInt8) (w : World) (hl : BytesAt w A l) (hn : l.length ≤ 140737488351232) :
    Calls Try.prog 62 #[.slice A l.length c] w fun e w' => e = .returned (.slice (some ⟨w.heap.size, 0, none⟩) l.length l.length) ∧ w'.ownsRow w.heap.size 5 1 (.slice (some ⟨w.heap.size, 0, none⟩) l.length l.length) l.length (vals l) ∧ Below w.heap.size w w' := by
  obtain ⟨n, hn'⟩ : ∃ n, n = l.length := ⟨_, rfl⟩
  rw [← hn'] at hn ⊢
  have hmk := run_make_row' (P := Try.prog) 34 5 (.int .u8 0) 1 Try.underlying34 u8info16 rfl .i64 .i64 n (by omega) (by omega)
  obtain ⟨xs, hxs⟩ : ∃ xs, xs = vals l := ⟨_, rfl⟩
  have hxl : xs.length = n := by rw [hxs, vals_length, hn']
  have hx1 : ∀ v ∈ xs, v.oneCell' = true := by rw [hxs]; exact vals_one l
  have hsrc : 0 < xs.length → ∃ ad, A = some ad ∧ ∀ j v, xs[j]? = some v → (w.alloc (.cells (madeCells #[.int .u8 0] n) 5)).cell? (ad.add j) = some v := by
    intro h
    obtain ⟨b, o, hA, hb, _⟩ := hl 0 (by omega)
    have := bytes_news (hl.below ((Below.refl _ _).alloc (Nat.le_refl _) (.cells (madeCells #[.int .u8 0] n) 5)))
    exact ⟨_, hA, by rw [hxs]; exact this _ hA⟩
  have HX := Lib.hid hxs
  have HXL := Lib.hid hxl
  have HX1 := Lib.hid hx1
  have HS := Lib.hid hsrc
  clear hl hxs hxl hx1 hsrc hn'
  go_enter Try.func62, Try.ntmps62
  go_wp2_with (with_reducible refine stop_wp (o := ⟨some 9, _, _, _, _, _⟩) ?_)
  refine Lib.hid ?_
  refine wpList_copy_splice rfl (.tmp 7) (.tmp 8) 34 34 rfl 5 Try.underlying34 u8size16 (some ⟨w.heap.size, 0, none⟩) A n n n c rfl rfl w.heap.size 0 (List.replicate n (.int .u8 0)) 5 (by rw [← toList_madeCells_one]; exact heap_alloc_new w _) xs (by rw [HXL.out]; exact (Nat.min_self n).symm) ?_ (by rw [HXL.out]; simp) HX1.out w.heap.size w ((Below.refl _ _).alloc (Nat.le_refl _) _) (Nat.le_refl _) ?_
  · intro h
    exact ⟨rfl, HS.out h⟩
  · intro w2 HG2 hB2
    have HB2 := Lib.hid hB2
    clear hB2
    go_wp2
    go_ret
    refine ⟨rfl, ?_, HB2.out⟩
    have hg := HG2.out
    refine ⟨by rw [vals_length, ← vals_length, ← HX.out, HXL.out, Nat.mul_one], .inr ⟨w.heap.size, n, _, rfl, Nat.le_refl _, hg, Nat.le_refl _, by unfold maxLen; omega, ?_, ?_⟩⟩
    · simp [length_splice, HXL.out]
    · rw [show (splice (List.replicate n (Value.int .u8 0)) 0 xs).toArray.toList = splice (List.replicate n (Value.int .u8 0)) 0 xs from rfl, splice, List.take_zero, List.nil_append, HXL.out, Nat.zero_add, List.drop_of_length_le (by simp), List.append_nil, Nat.mul_one, List.take_of_length_le (by rw [HXL.out]; exact Nat.le_refl _), HX.out]
theorem own16_n (A : Option Addr) (n c : Nat) (l : List UInt8) (w : World) (hl : BytesAt w A l) (hn : l.length ≤ 140737488351232) (e : n = l.length) :
    Calls Try.prog 62 #[.slice A n c] w fun e w' => e = .returned (.slice (some ⟨w.heap.size, 0, none⟩) l.length l.length) ∧ w'.ownsRow w.heap.size 5 1 (.slice (some ⟨w.heap.size, 0, none⟩) l.length l.length) l.length (vals l) ∧ Below w.heap.size w w' := by
  subst e; exact own16_any A c l w hl hn

/-- A flight's cells. -/
def flightV (num a b : Int) (v : Value) (sp : Bool) : Value := .agg #[.int .i64 num, .int .i64 a, .int .i64 b, v, .bool sp]

/-- A flight with bytes of its own is answered. -/
def CopiedIs (num a b : Int) (l : List UInt8) (sp : Bool) (w : World) (e : Ending) (w' : World) : Prop :=
  ∃ g, e = .returned (flightV num a b (.slice (some ⟨g, 0, none⟩) l.length l.length) sp) ∧ w'.ownsRow w.heap.size 5 1 (.slice (some ⟨g, 0, none⟩) l.length l.length) l.length (vals l) ∧ Below w.heap.size w w'

set_option maxRecDepth 100000 in
theorem copied16_any (num a b : Int) (A : Option Addr) (c : Nat) (l : List UInt8) (sp : Bool) (w : World) (hl : BytesAt w A l) (hn : l.length ≤ 140737488351232) :
    Calls Try.prog 50 #[flightV num a b (.slice A l.length c) sp] w (CopiedIs num a b l sp w) := by
  obtain ⟨w1, hw1⟩ : ∃ w1, w1 = (w.alloc (.cells #[.int .i64 num, .int .i64 a, .int .i64 b, .slice A l.length c, .bool sp] 82)).alloc (.cells #[.int .i64 0, .int .i64 0, .int .i64 0, .slice none 0 0, .bool false] 82) := ⟨_, rfl⟩
  have hb1 : Below w.heap.size w w1 := by rw [hw1]; exact ((Below.refl _ _).alloc (Nat.le_refl _) _).alloc (by simp) _
  have HC := Lib.hid (own16_any A c l w1 (hl.below hb1) hn)
  have HW := Lib.hid hw1
  have HB := Lib.hid hb1
  clear hl hw1 hb1
  unfold flightV
  go_enter Try.func50, Try.ntmps50
  go_wp2_with (fail)
  rw [← HW.out]
  refine HC.out.mono ?_
  rintro e w3 ⟨rfl, ho3, hb3⟩
  obtain ⟨V, hV⟩ : ∃ V, V = Value.slice (some ⟨w1.heap.size, 0, none⟩) l.length l.length := ⟨_, rfl⟩
  have hs1 : w1.heap.size = w.heap.size + 2 := by rw [HW.out]; simp
  have g0 : w1.heap[w.heap.size]? = some (.cells #[.int .i64 num, .int .i64 a, .int .i64 b, .slice A l.length c, .bool sp] 82 (0, 0)) := by
    rw [HW.out, Below.heap_alloc _ _ _ (by simp)]; exact heap_alloc_new w _
  have g1 : w1.heap[w.heap.size + 1]? = some (.cells #[.int .i64 0, .int .i64 0, .int .i64 0, .slice none 0 0, .bool false] 82 (0, 0)) := by
    rw [HW.out]
    have := heap_alloc_new (w.alloc (.cells #[.int .i64 num, .int .i64 a, .int .i64 b, .slice A l.length c, .bool sp] 82)) (.cells #[.int .i64 0, .int .i64 0, .int .i64 0, .slice none 0 0, .bool false] 82)
    rwa [World.size_alloc] at this
  have e0 := (hb3.block w.heap.size (by omega)).trans g0
  have e1 := (hb3.block (w.heap.size + 1) (by omega)).trans g1
  have k0 : w3.cell? ⟨w.heap.size, 0, none⟩ = some (.int .i64 num) := by rw [cell_of_row w3 w.heap.size _ _ _ (0, 0) e0]; rfl
  have k1 : w3.cell? ⟨w.heap.size, 1, none⟩ = some (.int .i64 a) := by rw [cell_of_row w3 w.heap.size _ _ _ (0, 0) e0]; rfl
  have k2 : w3.cell? ⟨w.heap.size, 2, none⟩ = some (.int .i64 b) := by rw [cell_of_row w3 w.heap.size _ _ _ (0, 0) e0]; rfl
  have k3 : w3.cell? ⟨w.heap.size, 3, none⟩ = some (.slice A l.length c) := by rw [cell_of_row w3 w.heap.size _ _ _ (0, 0) e0]; rfl
  have k4 : w3.cell? ⟨w.heap.size, 4, none⟩ = some (.bool sp) := by rw [cell_of_row w3 w.heap.size _ _ _ (0, 0) e0]; rfl
  have f3 : w3.frozen? ⟨w.heap.size, 3, none⟩ = false := by simp [World.frozen?, e0]
  have q0 : w3.cell? ⟨w.heap.size + 1, 0, none⟩ = some (.int .i64 0) := by rw [cell_of_row w3 (w.heap.size + 1) _ _ _ (0, 0) e1]; rfl
  have q1 : w3.cell? ⟨w.heap.size + 1, 1, none⟩ = some (.int .i64 0) := by rw [cell_of_row w3 (w.heap.size + 1) _ _ _ (0, 0) e1]; rfl
  have q2 : w3.cell? ⟨w.heap.size + 1, 2, none⟩ = some (.int .i64 0) := by rw [cell_of_row w3 (w.heap.size + 1) _ _ _ (0, 0) e1]; rfl
  have q3 : w3.cell? ⟨w.heap.size + 1, 3, none⟩ = some (.slice none 0 0) := by rw [cell_of_row w3 (w.heap.size + 1) _ _ _ (0, 0) e1]; rfl
  have q4 : w3.cell? ⟨w.heap.size + 1, 4, none⟩ = some (.bool false) := by rw [cell_of_row w3 (w.heap.size + 1) _ _ _ (0, 0) e1]; rfl
  have f4 : ∀ i, w3.frozen? ⟨w.heap.size + 1, i, none⟩ = false := fun i => by simp [World.frozen?, e1]
  have HO3 := Lib.hid ho3
  have HB3 := Lib.hid hb3
  have HV := Lib.hid hV
  have HG := Lib.hid e1
  have HS1 := Lib.hid hs1
  rw [← hV]
  rw [← hV] at HO3
  clear ho3 hb3 hV e0 e1 g0 g1 hs1
  have hVs : ∃ gg, V = .slice (some ⟨gg, 0, none⟩) l.length l.length := ⟨_, HV.out⟩
  obtain ⟨gg, rfl⟩ := hVs
  have hfin : ((((((w3.setCell ⟨w.heap.size, 3, none⟩ (.slice (some ⟨gg, 0, none⟩) l.length l.length)).setCell ⟨w.heap.size + 1, 0, none⟩ (.int .i64 num)).setCell ⟨w.heap.size + 1, 1, none⟩ (.int .i64 a)).setCell ⟨w.heap.size + 1, 2, none⟩ (.int .i64 b)).setCell ⟨w.heap.size + 1, 3, none⟩ (.slice (some ⟨gg, 0, none⟩) l.length l.length)).setCell ⟨w.heap.size + 1, 4, none⟩ (.bool sp)).heap[w.heap.size + 1]? = some (.cells #[.int .i64 num, .int .i64 a, .int .i64 b, .slice (some ⟨gg, 0, none⟩) l.length l.length, .bool sp] 82 (0, 0)) := by
    simp [World.setCell, Array.getElem?_modify, HG.out]
  have hO : ((((((w3.setCell ⟨w.heap.size, 3, none⟩ (.slice (some ⟨gg, 0, none⟩) l.length l.length)).setCell ⟨w.heap.size + 1, 0, none⟩ (.int .i64 num)).setCell ⟨w.heap.size + 1, 1, none⟩ (.int .i64 a)).setCell ⟨w.heap.size + 1, 2, none⟩ (.int .i64 b)).setCell ⟨w.heap.size + 1, 3, none⟩ (.slice (some ⟨gg, 0, none⟩) l.length l.length)).setCell ⟨w.heap.size + 1, 4, none⟩ (.bool sp)).ownsRow w.heap.size 5 1 (.slice (some ⟨gg, 0, none⟩) l.length l.length) l.length (vals l) := by
    have hne : ∀ k, k ≤ w.heap.size + 1 → (Value.slice (some ⟨gg, 0, none⟩) l.length l.length).ownBlock ≠ some k := fun k hk e => by
      have := (HO3.out.lt k e).1
      have := HS1.out
      omega
    refine World.ownsRow.mono (base := w1.heap.size) ?_ (by have := HS1.out; omega)
    refine own_set (p := ⟨w.heap.size + 1, 4, none⟩) ?_ (hne _ (by simp)) _
    refine own_set (p := ⟨w.heap.size + 1, 3, none⟩) ?_ (hne _ (by simp)) _
    refine own_set (p := ⟨w.heap.size + 1, 2, none⟩) ?_ (hne _ (by simp)) _
    refine own_set (p := ⟨w.heap.size + 1, 1, none⟩) ?_ (hne _ (by simp)) _
    refine own_set (p := ⟨w.heap.size + 1, 0, none⟩) ?_ (hne _ (by simp)) _
    exact own_set HO3.out (p := ⟨w.heap.size, 3, none⟩) (hne _ (by simp)) _
  have hBf : Below w.heap.size w ((((((w3.setCell ⟨w.heap.size, 3, none⟩ (.slice (some ⟨gg, 0, none⟩) l.length l.length)).setCell ⟨w.heap.size + 1, 0, none⟩ (.int .i64 num)).setCell ⟨w.heap.size + 1, 1, none⟩ (.int .i64 a)).setCell ⟨w.heap.size + 1, 2, none⟩ (.int .i64 b)).setCell ⟨w.heap.size + 1, 3, none⟩ (.slice (some ⟨gg, 0, none⟩) l.length l.length)).setCell ⟨w.heap.size + 1, 4, none⟩ (.bool sp)) :=
    ((((((HB.out.trans (HB3.out.mono (by have := HS1.out; omega))).setCell (by simp) _).setCell (by simp) _).setCell (by simp) _).setCell (by simp) _).setCell (by simp) _).setCell (by simp) _
  have HFIN := Lib.hid hfin
  have HOF := Lib.hid hO
  have HBF := Lib.hid hBf
  clear hfin hO hBf
  go_wp2
  generalize ((((((w3.setCell ⟨w.heap.size, 3, none⟩ (.slice (some ⟨gg, 0, none⟩) l.length l.length)).setCell ⟨w.heap.size + 1, 0, none⟩ (.int .i64 num)).setCell ⟨w.heap.size + 1, 1, none⟩ (.int .i64 a)).setCell ⟨w.heap.size + 1, 2, none⟩ (.int .i64 b)).setCell ⟨w.heap.size + 1, 3, none⟩ (.slice (some ⟨gg, 0, none⟩) l.length l.length)).setCell ⟨w.heap.size + 1, 4, none⟩ (.bool sp)) = wz at HFIN HOF HBF ⊢
  have z0 : wz.cell? ⟨w.heap.size + 1, 0, none⟩ = some (.int .i64 num) := by rw [cell_of_row wz (w.heap.size + 1) _ _ _ (0, 0) HFIN.out]; rfl
  have z1 : wz.cell? ⟨w.heap.size + 1, 1, none⟩ = some (.int .i64 a) := by rw [cell_of_row wz (w.heap.size + 1) _ _ _ (0, 0) HFIN.out]; rfl
  have z2 : wz.cell? ⟨w.heap.size + 1, 2, none⟩ = some (.int .i64 b) := by rw [cell_of_row wz (w.heap.size + 1) _ _ _ (0, 0) HFIN.out]; rfl
  have z3 : wz.cell? ⟨w.heap.size + 1, 3, none⟩ = some (.slice (some ⟨gg, 0, none⟩) l.length l.length) := by rw [cell_of_row wz (w.heap.size + 1) _ _ _ (0, 0) HFIN.out]; rfl
  have z4 : wz.cell? ⟨w.heap.size + 1, 4, none⟩ = some (.bool sp) := by rw [cell_of_row wz (w.heap.size + 1) _ _ _ (0, 0) HFIN.out]; rfl
  refine bodyPost_ret (v := flightV num a b (.slice (some ⟨gg, 0, none⟩) l.length l.length) sp) ?_ rfl ⟨gg, rfl, HOF.out, HBF.out⟩
  simp [results, Try.results50, go_sem, z0, z1, z2, z3, z4, flightV]
end Go.Proofs.Ytejlpdcoaejciaa
