/- LinkOrder: of several errors the one that is looked at first; the bounds of nodes and bytes. Proved for every input, with no condition. -/
import Derived.Test.YtejlpdcoaejciaaLinkSpoil
import Derived.Test.YtejlpdcoaejciaaLinkNew
import Derived.Lib.SlBytesConst
import Derived.Test.YtejlpdcoaejciaaLaw
namespace Go.Proofs.Ytejlpdcoaejciaa
open Go.ChangeShapes Go.WideShapes Go.ChangeAt Go.RowKit

theorem pk2 {w : World} {gb : Nat} {x y x' y' : Int} (h : w.heap[gb]? = some (.cells #[.int .i64 x, .int .i64 y, .slice none 0 0, .int .i64 x', .int .i64 y', .slice none 0 0] 36 (0, 0))) : PkAt w (some ⟨gb, 0, none⟩) [⟨x, y, []⟩, ⟨x', y', []⟩] := by
  have hc : ∀ j, w.cell? ⟨gb, j, none⟩ = (#[.int .i64 x, .int .i64 y, .slice none 0 0, .int .i64 x', .int .i64 y', .slice none 0 0] : Array Value)[j]? := fun j => cell_of_row w gb j _ _ (0, 0) h
  have hl := (Array.getElem?_eq_some_iff.1 h).1
  intro k hk
  have hnil : IsBytes w (.slice none 0 0) [] := ⟨none, 0, rfl, BytesAt.nil _ _, fun _ => rfl, Nat.le_refl _, by omega⟩
  match k, hk with
  | 0, _ => exact ⟨gb, 0, .slice none 0 0, rfl, hl, hc _, hc _, hc _, hnil⟩
  | 1, _ => exact ⟨gb, 0, .slice none 0 0, rfl, hl, hc _, hc _, hc _, hnil⟩
theorem pk1 {w : World} {gb xb : Nat} {x y : Int} {p q r : UInt8} {fr : Nat × Nat} (h : w.heap[gb]? = some (.cells #[.int .i64 x, .int .i64 y, .slice (some ⟨xb, 0, none⟩) 3 3] 36 (0, 0))) (h2 : w.heap[xb]? = some (.cells #[.int .u8 (p.toNat : Int), .int .u8 (q.toNat : Int), .int .u8 (r.toNat : Int)] 5 fr)) : PkAt w (some ⟨gb, 0, none⟩) [⟨x, y, [p, q, r]⟩] := by
  have hc : ∀ j, w.cell? ⟨gb, j, none⟩ = (#[.int .i64 x, .int .i64 y, .slice (some ⟨xb, 0, none⟩) 3 3] : Array Value)[j]? := fun j => cell_of_row w gb j _ _ (0, 0) h
  have hx : ∀ j, w.cell? ⟨xb, j, none⟩ = (#[.int .u8 (p.toNat : Int), .int .u8 (q.toNat : Int), .int .u8 (r.toNat : Int)] : Array Value)[j]? := fun j => cell_of_row w xb j _ _ fr h2
  have hl := (Array.getElem?_eq_some_iff.1 h).1
  have hl2 := (Array.getElem?_eq_some_iff.1 h2).1
  intro k hk
  match k, hk with
  | 0, _ =>
    refine ⟨gb, 0, _, rfl, hl, hc _, hc _, hc _, some ⟨xb, 0, none⟩, 3, rfl, fun t ht => ⟨xb, 0, rfl, hl2, ?_⟩, (fun h => by cases h), Nat.le_refl _, by omega⟩
    have : t = 0 ∨ t = 1 ∨ t = 2 := by simp at ht; omega
    rcases this with rfl | rfl | rfl <;> exact hx _

/-- A link with one flight, number 0, of three bytes. -/
def OneAt (w : World) (base g : Nat) (sp : Bool) : Prop := ∃ v f, LinkAt w base g 3 1 1 v [f] ∧ f.num = 0 ∧ f.l.length = 3 ∧ f.sp = sp
theorem OneAt.kept {w w' : World} {base g : Nat} {sp : Bool} (h : OneAt w base g sp) (hb : Below w.heap.size w w') : OneAt w' base g sp := by
  obtain ⟨v, f, h1, h2⟩ := h
  exact ⟨v, f, h1.kept hb, h2⟩
theorem one_sorted (f : FlightR) : ∀ i j (hi : i < [f].length) (hj : j < [f].length), i < j → [f][i].num < [f][j].num := fun i j hi hj h => by simp at hi hj; omega

theorem spoil_other {w : World} {base g : Nat} {sp : Bool} (h : OneAt w base g sp) (at' : Int) (M : UInt8) (m : Int) (hm : m = (M.toNat : Int)) :
    Calls Try.prog 17 #[.pointer (some ⟨g, 0, none⟩), .int .i64 1, .int .i64 at', .int .u8 m] w fun e w' => e = .returned (.int .i64 160) ∧ Below w.heap.size w w' := by
  subst hm
  obtain ⟨v, f, hL, hn, hl, hsp⟩ := h
  refine (spoil_any base g 3 1 1 v [f] 1 at' M w hL (by simp) (one_sorted f)).mono ?_
  rintro e w' (⟨h1, _, h2⟩ | ⟨i, hi, h1, _⟩)
  · exact ⟨h1, h2⟩
  · have : i = 0 := by simp at hi; omega
    subst this
    simp at h1; omega
theorem spoil_bad {w : World} {base g : Nat} {sp : Bool} (h : OneAt w base g sp) (at' : Int) (M : UInt8) (m : Int) (hm : m = (M.toNat : Int)) (hb : ¬ (0 ≤ at' ∧ at' < 3 ∧ M ≠ 0)) :
    Calls Try.prog 17 #[.pointer (some ⟨g, 0, none⟩), .int .i64 0, .int .i64 at', .int .u8 m] w fun e w' => e = .returned (.int .i64 12) ∧ Below w.heap.size w w' := by
  subst hm
  obtain ⟨v, f, hL, hn, hl, hsp⟩ := h
  refine (spoil_any base g 3 1 1 v [f] 0 at' M w hL (by simp) (one_sorted f)).mono ?_
  rintro e w' (⟨_, h1, _⟩ | ⟨i, hi, _, h⟩)
  · exact absurd hn (h1 f (by simp))
  · have : i = 0 := by simp at hi; omega
    subst this
    simp only [List.getElem_cons_zero, hl] at h
    rcases h with ⟨_, h1, h2⟩ | ⟨h1, _⟩ | ⟨h1, _⟩
    · exact ⟨h1, h2⟩
    · exact absurd h1 hb
    · exact absurd h1 hb
theorem spoil_done {w : World} {base g : Nat} (h : OneAt w base g true) (at' : Int) (M : UInt8) (m : Int) (hm : m = (M.toNat : Int)) (hb : 0 ≤ at' ∧ at' < 3 ∧ M ≠ 0) :
    Calls Try.prog 17 #[.pointer (some ⟨g, 0, none⟩), .int .i64 0, .int .i64 at', .int .u8 m] w fun e w' => e = .returned (.int .i64 162) ∧ Below w.heap.size w w' := by
  subst hm
  obtain ⟨v, f, hL, hn, hl, hsp⟩ := h
  refine (spoil_any base g 3 1 1 v [f] 0 at' M w hL (by simp) (one_sorted f)).mono ?_
  rintro e w' (⟨_, h1, _⟩ | ⟨i, hi, _, h⟩)
  · exact absurd hn (h1 f (by simp))
  · have : i = 0 := by simp at hi; omega
    subst this
    simp only [List.getElem_cons_zero, hl] at h
    rcases h with ⟨h1, _⟩ | ⟨_, _, h1, h2⟩ | ⟨_, h1, _⟩
    · exact absurd hb h1
    · exact ⟨h1, h2⟩
    · rw [hsp] at h1; cases h1
theorem spoil_do {w : World} {base g : Nat} (h : OneAt w base g false) (at' : Int) (M : UInt8) (m : Int) (hm : m = (M.toNat : Int)) (hb : 0 ≤ at' ∧ at' < 3 ∧ M ≠ 0) (hw : base ≤ w.heap.size) :
    Calls Try.prog 17 #[.pointer (some ⟨g, 0, none⟩), .int .i64 0, .int .i64 at', .int .u8 m] w fun e w' => e = .returned (.int .i64 0) ∧ OneAt w' base g true ∧ Below base w w' := by
  subst hm
  obtain ⟨v, f, hL, hn, hl, hsp⟩ := h
  refine (spoil_any base g 3 1 1 v [f] 0 at' M w hL (by simp) (one_sorted f)).mono ?_
  rintro e w' (⟨_, h1, _⟩ | ⟨i, hi, _, h⟩)
  · exact absurd hn (h1 f (by simp))
  · have : i = 0 := by simp at hi; omega
    subst this
    simp only [List.getElem_cons_zero, hl] at h
    rcases h with ⟨h1, _⟩ | ⟨_, h1, _⟩ | ⟨_, _, h1, h2, h3⟩
    · exact absurd hb h1
    · rw [hsp] at h1; cases h1
    · refine ⟨h1, ⟨v, turnF f at'.toNat M, h2, hn, ?_, rfl⟩, h3.toBelow hw (fun k hk => ?_)⟩
      · show (f.l.set _ _).length = 3
        rw [List.length_set]; exact hl
      · rcases hk with h | h
        · exact (hL.2.2.1.lt k h).1
        · exact ((hL.2.2.2.1 f (by simp)).lt k h).1

set_option maxHeartbeats 1600000 in
set_option maxRecDepth 100000 in
theorem order_walk (node at' : Int) (w : World) : Calls Try.prog 5 #[.int .i64 node, .int .i64 at'] w (Lawful w) := by
  go_enter Try.func5, Try.ntmps5
  go_wp2_with (fail)
  refine (new_good 3 1 (by omega) (by omega) (by omega) (by omega) w).mono ?_
  rintro e w1 ⟨rfl, hw1⟩
  have hL1 : LinkAt w1 w.heap.size w.heap.size 3 1 0 (.slice none 0 0) [] := by
    rw [← hw1]
    exact ⟨heap_alloc_new w _, Nat.le_refl _, ⟨rfl, .inl ⟨rfl, rfl⟩⟩, fun f h => by simp at h, List.Pairwise.nil⟩
  have hB1 : Below w.heap.size w w1 := by rw [← hw1]; exact (Below.refl _ _).alloc (Nat.le_refl _) _
  have hsz1 : w1.heap.size = w.heap.size + 1 := by rw [← hw1]; simp
  have HL1 := Lib.hid hL1
  have HB1 := Lib.hid hB1
  have HS1 := Lib.hid hsz1
  clear hw1 hL1 hB1 hsz1
  obtain ⟨good, hgd⟩ : ∃ good : Bool, good = decide (0 ≤ node ∧ node < 3) := ⟨_, rfl⟩
  have HGD := Lib.hid hgd
  clear hgd
  go_upto_region 4 with (fail)
  go_cut [7] (fun s wx => s = .bool good ∧ w1 = wx)
  case first =>
    by_cases h1 : 0 ≤ node
    · by_cases h2 : node < 3
      · have HG2 := Lib.hid (show good = true by rw [HGD.out]; exact decide_eq_true ⟨h1, h2⟩)
        go_wp2
        go_meet
        exact ⟨by rw [HG2.out], rfl⟩
      · have HG2 := Lib.hid (show good = false by rw [HGD.out]; exact decide_eq_false (fun h => h2 h.2))
        go_wp2
        go_meet
        exact ⟨by rw [HG2.out], rfl⟩
    · have HG2 := Lib.hid (show good = false by rw [HGD.out]; exact decide_eq_false (fun h => h1 h.1))
      go_wp2
      go_meet
      exact ⟨by rw [HG2.out], rfl⟩
  case rest =>
    obtain ⟨rfl, rfl⟩ := hcut
    obtain ⟨want, hwant⟩ : ∃ want : Int, want = if good = true then 161 else 170 := ⟨_, rfl⟩
    have HWT := Lib.hid hwant
    clear hwant
    go_upto_if 44 with (fail)
    go_cut [10] (fun s wx => s = .int .i64 want ∧ ∃ w2, w2 = wx ∧ Below w1.heap.size w1 w2 ∧ w2.cell? ⟨w1.heap.size, 0, none⟩ = some (.int .i64 node) ∧ w2.cell? ⟨w1.heap.size, 1, none⟩ = some (.int .i64 1) ∧ w2.cell? ⟨w1.heap.size, 2, none⟩ = some (.slice none 0 0) ∧ w2.cell? ⟨w1.heap.size + 1, 0, none⟩ = some (.int .i64 1) ∧ w2.cell? ⟨w1.heap.size + 1, 1, none⟩ = some (.int .i64 node) ∧ w2.cell? ⟨w1.heap.size + 1, 2, none⟩ = some (.slice none 0 0))
    case first =>
      cases good with
      | true =>
        go_wp2
        go_meet
        exact ⟨by rw [HWT.out]; rfl, _, rfl, ((Below.refl _ _).alloc (Nat.le_refl _) _).alloc (by simp) _, by simp, by simp, by simp, by simp, by simp, by simp⟩
      | false =>
        go_wp2
        go_meet
        exact ⟨by rw [HWT.out]; rfl, _, rfl, ((Below.refl _ _).alloc (Nat.le_refl _) _).alloc (by simp) _, by simp, by simp, by simp, by simp, by simp, by simp⟩
    case rest =>
      obtain ⟨rfl, w2, rfl, hb2, a0, a1, a2, b0, b1, b2⟩ := hcut
      have HB2 := Lib.hid hb2
      have HL2 := Lib.hid (HL1.out.kept hb2)
      have hs2 := hb2.size
      have hs1 : w.heap.size < w1.heap.size := by have := HS1.out; omega
      have hgw : w.heap.size < w2.heap.size := by omega
      clear hb2
      -- the first Send
      obtain ⟨w3, hw3⟩ : ∃ w3, w3 = w2.alloc (.cells #[.int .i64 0, .int .i64 0, .slice none 0 0, .int .i64 node, .int .i64 1, .slice none 0 0] 36) := ⟨_, rfl⟩
      have B3 : Below w2.heap.size w2 w3 := by rw [hw3]; exact (Below.refl _ _).alloc (Nat.le_refl _) _
      have g3 : w3.heap[w2.heap.size]? = some (.cells #[.int .i64 0, .int .i64 0, .slice none 0 0, .int .i64 node, .int .i64 1, .slice none 0 0] 36 (0, 0)) := by rw [hw3]; exact heap_alloc_new w2 _
      have HSE1 : Calls Try.prog 16 #[.pointer (some ⟨w.heap.size, 0, none⟩), .slice (some ⟨w2.heap.size, 0, none⟩) 2 2] w3 fun e w' => e = .returned (.tuple #[.int .i64 0, .int .i64 want]) ∧ Below w3.heap.size w3 w' := by
        refine (send_any w.heap.size w.heap.size 3 1 0 (.slice none 0 0) [] (some ⟨w2.heap.size, 0, none⟩) 2 [⟨0, 0, []⟩, ⟨node, 1, []⟩] w3 (HL2.out.kept B3) (fun w' hc => pk2 ((hc.block w2.heap.size (Array.getElem?_eq_some_iff.1 g3).1 (fun h => by rcases h with h | h; (omega); cases h)).trans g3)) (by simp) (by have := B3.size; omega) (by simp) (by omega) (by omega) (by omega) (by omega) (by simp)).mono ?_
        intro e w' h
        unfold SendIs at h
        by_cases hg : 0 ≤ node ∧ node < 3
        · rw [if_pos (by intro p hp; simp at hp; rcases hp with rfl | rfl <;> (unfold goodP; simp; try omega)), if_pos (by simp)] at h
          rw [HWT.out, HGD.out, decide_eq_true hg, if_pos rfl]; exact h
        · rw [if_neg (by intro hh; have := hh ⟨node, 1, []⟩ (by simp); unfold goodP at this; simp only at this; omega)] at h
          rw [HWT.out, HGD.out, decide_eq_false hg, if_neg (by simp)]; exact h
      have HSE1 := Lib.hid HSE1
      have HW3 := Lib.hid hw3
      have HB3 := Lib.hid B3
      clear hw3 B3 g3
      go_wp2_with (fail)
      rw [← HW3.out]
      refine HSE1.out.mono ?_
      rintro e w4 ⟨rfl, hb4⟩
      have B24 : Below w2.heap.size w2 w4 := HB3.out.trans (hb4.mono HB3.out.size)
      have c0 := (B24.cell (p := ⟨w1.heap.size + 1, 0, none⟩) (World.block_lt_of_cell? _ _ b0)).trans b0
      have c1 := (B24.cell (p := ⟨w1.heap.size + 1, 1, none⟩) (World.block_lt_of_cell? _ _ b1)).trans b1
      have c2 := (B24.cell (p := ⟨w1.heap.size + 1, 2, none⟩) (World.block_lt_of_cell? _ _ b2)).trans b2
      have HB24 := Lib.hid B24
      have hs4 := B24.size
      have HL4 := Lib.hid (HL2.out.kept B24)
      clear hb4 B24 a0 a1 a2 b0 b1 b2
      -- the second
      obtain ⟨w5, hw5⟩ : ∃ w5, w5 = w4.alloc (.cells #[.int .i64 0, .int .i64 0, .slice none 0 0, .int .i64 1, .int .i64 node, .slice none 0 0] 36) := ⟨_, rfl⟩
      have B5 : Below w4.heap.size w4 w5 := by rw [hw5]; exact (Below.refl _ _).alloc (Nat.le_refl _) _
      have g5 : w5.heap[w4.heap.size]? = some (.cells #[.int .i64 0, .int .i64 0, .slice none 0 0, .int .i64 1, .int .i64 node, .slice none 0 0] 36 (0, 0)) := by rw [hw5]; exact heap_alloc_new w4 _
      have HSE2 : Calls Try.prog 16 #[.pointer (some ⟨w.heap.size, 0, none⟩), .slice (some ⟨w4.heap.size, 0, none⟩) 2 2] w5 fun e w' => e = .returned (.tuple #[.int .i64 0, .int .i64 want]) ∧ Below w5.heap.size w5 w' := by
        refine (send_any w.heap.size w.heap.size 3 1 0 (.slice none 0 0) [] (some ⟨w4.heap.size, 0, none⟩) 2 [⟨0, 0, []⟩, ⟨1, node, []⟩] w5 (HL4.out.kept B5) (fun w' hc => pk2 ((hc.block w4.heap.size (Array.getElem?_eq_some_iff.1 g5).1 (fun h => by rcases h with h | h; (omega); cases h)).trans g5)) (by simp) (by have := B5.size; omega) (by simp) (by omega) (by omega) (by omega) (by omega) (by simp)).mono ?_
        intro e w' h
        unfold SendIs at h
        by_cases hg : 0 ≤ node ∧ node < 3
        · rw [if_pos (by intro p hp; simp at hp; rcases hp with rfl | rfl <;> (unfold goodP; simp; try omega)), if_pos (by simp)] at h
          rw [HWT.out, HGD.out, decide_eq_true hg, if_pos rfl]; exact h
        · rw [if_neg (by intro hh; have := hh ⟨1, node, []⟩ (by simp); unfold goodP at this; simp only at this; omega)] at h
          rw [HWT.out, HGD.out, decide_eq_false hg, if_neg (by simp)]; exact h
      have HSE2 := Lib.hid HSE2
      have HW5 := Lib.hid hw5
      have HB5 := Lib.hid B5
      clear hw5 B5 g5
      go_wp2_with (fail)
      rw [← HW5.out]
      refine HSE2.out.mono ?_
      rintro e w6 ⟨rfl, hb6⟩
      have B46 : Below w4.heap.size w4 w6 := HB5.out.trans (hb6.mono HB5.out.size)
      have HB46 := Lib.hid B46
      have hs6 := B46.size
      have HL6 := Lib.hid (HL4.out.kept B46)
      clear hb6 B46 c0 c1 c2
      -- the third
      have kc := fun (w : World) (C : Array Value) (n c : Nat) => Lib.run_convert_bytes_const (P := Try.prog) w 34 5 C n c Try.underlying34 Try.underlying5
      go_wp2_with (fail)
      clear kc
      obtain ⟨w7, hw7⟩ : ∃ w7, w7 = w6.alloc (.cells #[.int .u8 120, .int .u8 121, .int .u8 122] 5 (3, 4)) := ⟨_, rfl⟩
      obtain ⟨w8, hw8⟩ : ∃ w8, w8 = w7.alloc (.cells #[.int .i64 2, .int .i64 2, .slice (some ⟨w6.heap.size, 0, none⟩) 3 3] 36) := ⟨_, rfl⟩
      have B7 : Below w6.heap.size w6 w7 := by rw [hw7]; exact (Below.refl _ _).alloc (Nat.le_refl _) _
      have B8 : Below w7.heap.size w7 w8 := by rw [hw8]; exact (Below.refl _ _).alloc (Nat.le_refl _) _
      have hs7 : w7.heap.size = w6.heap.size + 1 := by rw [hw7]; simp
      have g7 : w8.heap[w6.heap.size]? = some (.cells #[.int .u8 120, .int .u8 121, .int .u8 122] 5 (3, 4)) := by
        rw [B8.block _ (by omega), hw7]; exact heap_alloc_new w6 _
      have g8 : w8.heap[w6.heap.size + 1]? = some (.cells #[.int .i64 2, .int .i64 2, .slice (some ⟨w6.heap.size, 0, none⟩) 3 3] 36 (0, 0)) := by
        rw [hw8, ← hs7]; exact heap_alloc_new w7 _
      have B68 : Below w6.heap.size w6 w8 := B7.trans (B8.mono B7.size)
      have HSE3 := Lib.hid (send_any w.heap.size w.heap.size 3 1 0 (.slice none 0 0) [] (some ⟨w6.heap.size + 1, 0, none⟩) 1 [⟨2, 2, [120, 121, 122]⟩] w8 (HL6.out.kept B68) (fun w' hc => pk1 (p := 120) (q := 121) (r := 122) ((hc.block (w6.heap.size + 1) (Array.getElem?_eq_some_iff.1 g8).1 (fun h => by rcases h with h | h; (omega); cases h)).trans g8) ((hc.block w6.heap.size (Array.getElem?_eq_some_iff.1 g7).1 (fun h => by rcases h with h | h; (omega); cases h)).trans g7)) (by simp) (by have := B68.size; omega) (by simp) (by omega) (by omega) (by omega) (by omega) (by simp))
      have HW8 := Lib.hid (hw8.trans (by rw [hw7]))
      have HB68 := Lib.hid B68
      clear hw7 hw8 B7 B8 hs7 g7 g8 B68
      rw [← HW8.out]
      refine HSE3.out.mono ?_
      intro e w9 h
      unfold SendIs at h
      rw [if_pos (by intro p hp; simp at hp; subst hp; unfold goodP; simp), if_neg (by simp)] at h
      obtain ⟨v9, gs, rfl, hL9, hnew, hat9, hch9⟩ := h
      have HL9 := Lib.hid hL9
      obtain ⟨f, rfl⟩ : ∃ f, gs = [f] := by
        have := hnew.1
        match gs, this with
        | [f], _ => exact ⟨f, rfl⟩
      have hf := hnew.2 0 (by simp) (by simp)
      have HFN := Lib.hid hf
      have BF : Below w.heap.size w w9 := by
        have h6 : Below w1.heap.size w1 w6 := HB2.out.trans ((HB24.out.mono hs2).trans (HB46.out.mono (by omega)))
        have h8 : Below w.heap.size w w8 := HB1.out.trans ((h6.mono (by omega)).trans (HB68.out.mono (by omega)))
        exact h8.trans (hch9.toBelow h8.size (fun k hk => by rcases hk with h | h; (omega); cases h))
      have hone : OneAt w9 w.heap.size w.heap.size false := by
        obtain ⟨h1, _, _, h4, h5⟩ := hf
        exact ⟨v9, f, hL9, by simpa using h1, by have h6 : f.l = [120, 121, 122] := h4; rw [h6]; rfl, h5⟩
      have HBF := Lib.hid BF
      have HO9 := Lib.hid hone
      clear hL9 hnew hat9 hch9 hf BF hone HFN HL9
      obtain ⟨inside, hin⟩ : ∃ inside : Bool, inside = decide (0 ≤ at' ∧ at' < 3) := ⟨_, rfl⟩
      have HIN := Lib.hid hin
      clear hin
      go_upto_region 15 with (fail)
      go_cut [17] (fun s wx => s = .bool inside ∧ w9 = wx)
      case first =>
        by_cases h1 : 0 ≤ at'
        · by_cases h2 : at' < 3
          · have HG2 := Lib.hid (show inside = true by rw [HIN.out]; exact decide_eq_true ⟨h1, h2⟩)
            go_wp2
            go_meet
            exact ⟨by rw [HG2.out], rfl⟩
          · have HG2 := Lib.hid (show inside = false by rw [HIN.out]; exact decide_eq_false (fun h => h2 h.2))
            go_wp2
            go_meet
            exact ⟨by rw [HG2.out], rfl⟩
        · have HG2 := Lib.hid (show inside = false by rw [HIN.out]; exact decide_eq_false (fun h => h1 h.1))
          go_wp2
          go_meet
          exact ⟨by rw [HG2.out], rfl⟩
      case rest =>
        obtain ⟨rfl, rfl⟩ := hcut
        have hsz9 : w.heap.size ≤ w9.heap.size := HBF.out.size
        go_wp2_with (fail)
        refine (spoil_other HO9.out at' 0 _ rfl).mono ?_
        rintro e x1 ⟨rfl, hx1⟩
        have O1 := Lib.hid (HO9.out.kept hx1)
        have C1 := Lib.hid (HBF.out.trans (hx1.mono hsz9))
        clear hx1
        go_wp2_with (fail)
        refine (spoil_bad O1.out at' 0 _ rfl (fun h => h.2.2 rfl)).mono ?_
        rintro e x2 ⟨rfl, hx2⟩
        have O2 := Lib.hid (O1.out.kept hx2)
        have C2 := Lib.hid (C1.out.trans (hx2.mono C1.out.size))
        clear hx2
        cases inside with
        | true =>
          have hin : 0 ≤ at' ∧ at' < 3 := of_decide_eq_true HIN.out.symm
          have HI2 := Lib.hid hin
          clear hin
          go_wp2_with (fail)
          refine (spoil_do O2.out at' 7 _ rfl ⟨HI2.out.1, HI2.out.2, by decide⟩ C2.out.size).mono ?_
          rintro e x3 ⟨rfl, hO3, hx3⟩
          have O3 := Lib.hid hO3
          have C3 := Lib.hid (C2.out.trans hx3)
          clear hO3 hx3
          go_wp2_with (fail)
          refine (spoil_done O3.out at' 7 _ rfl ⟨HI2.out.1, HI2.out.2, by decide⟩).mono ?_
          rintro e x4 ⟨rfl, hx4⟩
          have C4 := Lib.hid (C3.out.trans (hx4.mono C3.out.size))
          clear hx4
          go_wp2
          go_ret
          exact ⟨rfl, C4.out⟩
        | false =>
          have hin : ¬ (0 ≤ at' ∧ at' < 3) := of_decide_eq_false HIN.out.symm
          have HI2 := Lib.hid hin
          clear hin
          go_wp2_with (fail)
          refine (spoil_bad O2.out at' 7 _ rfl (fun h => HI2.out ⟨h.1, h.2.1⟩)).mono ?_
          rintro e x3 ⟨rfl, hx3⟩
          have O3 := Lib.hid (O2.out.kept hx3)
          have C3 := Lib.hid (C2.out.trans (hx3.mono C2.out.size))
          clear hx3
          go_wp2_with (fail)
          refine (spoil_bad O3.out at' 7 _ rfl (fun h => HI2.out ⟨h.1, h.2.1⟩)).mono ?_
          rintro e x4 ⟨rfl, hx4⟩
          have O4 := Lib.hid (O3.out.kept hx4)
          have C4 := Lib.hid (C3.out.trans (hx4.mono C3.out.size))
          clear hx4
          go_wp2_with (fail)
          refine (spoil_do O4.out 2 1 _ rfl (by decide) C4.out.size).mono ?_
          rintro e x5 ⟨rfl, hO5, hx5⟩
          have O5 := Lib.hid hO5
          have C5 := Lib.hid (C4.out.trans hx5)
          clear hO5 hx5
          go_wp2_with (fail)
          refine (spoil_bad O5.out at' 1 _ rfl (fun h => HI2.out ⟨h.1, h.2.1⟩)).mono ?_
          rintro e x6 ⟨rfl, hx6⟩
          have C6 := Lib.hid (C5.out.trans (hx6.mono C5.out.size))
          clear hx6
          go_wp2
          go_ret
          exact ⟨rfl, C6.out⟩
end Go.Proofs.Ytejlpdcoaejciaa
