/- StacksNone: where nothing is said yes to Pick answers ErrStack and has asked all; where there is no one to ask: ErrHandle. Proved for every list of ids, with no condition. -/
import Derived.Test.YtejlpdcoaejciaaOwn
import Derived.Test.YtejlpdcoaejciaaArr
import Derived.Test.YtejlpdcoaejciaaSpells
import Derived.Deep.QuietTactic
import Derived.BigQuiet
namespace Go.Proofs.Ytejlpdcoaejciaa
open Go.ChangeShapes Go.WideShapes Go.ChangeAt Go.RowKit

theorem Try.eqID (w : World) (d : Nat) (a b a' b' : Int) : (Op.equalIn (d + 2) 67 (.agg #[.int .i64 a, .int .i64 b]) (.agg #[.int .i64 a', .int .i64 b'])).run Try.prog w = .ok (a == a' && b == b') w :=
  run_equalIn_pair w d 67 3 .i64 a b a' b' Try.underlying67 Try.underlying3 (by kernel_rfl)
theorem Try.fnNil (w : World) (fn : Fn) (a b : Array Value) : (binOp .eql 70 (.func fn a b) .nilFunc).run Try.prog w = .ok (.bool false) w := run_eql_func_nil w Try.underlying70 fn a b
theorem Try.nilNil (w : World) : (binOp .eql 70 .nilFunc .nilFunc).run Try.prog w = .ok (.bool true) w := run_eql_nil_nil w Try.underlying70
attribute [local go_sem] Try.eqID Try.fnNil Try.nilNil

theorem none1 (x y a : Int) (g : Nat) (w : World) (hg : g < w.heap.size) (ha0 : 0 ≤ a) (ha : a < 9000000000000000000) (hc : w.cell? ⟨g, 0, none⟩ = some (.int .i64 a)) (hf : w.frozen? ⟨g, 0, none⟩ = false) :
    Calls Try.prog 30 #[.agg #[.int .i64 x, .int .i64 y], .pointer (some ⟨g, 0, none⟩)] w fun e w' => e = .returned (.bool false) ∧ (w.alloc (.cells #[.int .i64 x, .int .i64 y] 67)).setCell ⟨g, 0, none⟩ (.int .i64 (a + 1)) = w' := by
  go_enter Try.func30, Try.ntmps30
  go_wp2
  go_ret
  exact ⟨rfl, by simp [World.setCell_alloc_past, hg]⟩

set_option maxRecDepth 100000 in
theorem pick_none (g : Nat) (A : Option Addr) (c : Nat) (l : List (Int × Int)) (w : World) (hl : IdsAt w A l) (hc : l.length * 16 ≤ 140737488351232) (hg : g < w.heap.size) (hbg : ∀ b o, A = some ⟨b, o, none⟩ → 0 < l.length → b < g)
    (hcell : w.cell? ⟨g, 0, none⟩ = some (.int .i64 0)) (hfr : w.frozen? ⟨g, 0, none⟩ = false) :
    Calls Try.prog 28 #[.slice A l.length c, .func (.func 30) #[] #[.pointer (some ⟨g, 0, none⟩)]] w fun e w' => e = .returned (.tuple #[.agg #[.int .i64 0, .int .i64 0], .int .i64 0, .int .i64 70]) ∧ Below g w w' ∧ w'.cell? ⟨g, 0, none⟩ = some (.int .i64 l.length) := by
  go_enter Try.func28, Try.ntmps28
  go_wp2
  go_loopw [7] (fun i wr => ∃ k : Nat, k ≤ l.length ∧ i = .int .i64 ((l.length : Int) - 1 - k) ∧ Below g w wr ∧ wr.cell? ⟨g, 0, none⟩ = some (.int .i64 k) ∧ wr.frozen? ⟨g, 0, none⟩ = false ∧ wr.cell? ⟨w.heap.size, 0, none⟩ = some (.int .i64 0) ∧ wr.cell? ⟨w.heap.size, 1, none⟩ = some (.int .i64 0) ∧ wr.frozen? ⟨w.heap.size, 0, none⟩ = false ∧ wr.frozen? ⟨w.heap.size, 1, none⟩ = false ∧ w.heap.size < wr.heap.size)
    (fun i _ => (intOf i + 1).toNat)
  case atStart =>
    refine ⟨0, Nat.zero_le _, by simp, (Below.refl _ _).alloc (by omega) _, ?_, ?_, ?_⟩
    · rw [World.cell?_alloc_past _ _ _ hg]; exact hcell
    · rw [World.frozen?_alloc_past _ _ _ hg]; exact hfr
    · simp
  case round =>
    obtain ⟨k, hk, rfl, hb, h1, h2, h3, h4, h5, h6, h7⟩ := hrel
    by_cases hlt : k < l.length
    · obtain ⟨b, o, rfl, hb1, q0, q1⟩ := hl (l.length - 1 - k) (by omega)
      have hbg' := hbg b o rfl (by omega)
      have e0 := (hb.cell (p := ⟨b, o + (l.length - 1 - k) * 2, none⟩) hbg').trans q0
      have e1 := (hb.cell (p := ⟨b, o + (l.length - 1 - k) * 2 + 1, none⟩) hbg').trans q1
      clear q0 q1 hl hcell hfr hbg
      have hgw : g < wr.heap.size := by omega
      go_wp2_with (go_at_call 30; refine (none1 _ _ k g wr hgw (by omega) (by omega) h1 h2).mono ?_; rintro e w' ⟨rfl, rfl⟩)
      go_roundw
      case rel =>
        have hgs : ∀ u, g < (wr.setCell ⟨g, 0, none⟩ u).heap.size := fun u => by rw [World.size_setCell]; exact hgw
        have h7s : ∀ u, w.heap.size < (wr.setCell ⟨g, 0, none⟩ u).heap.size := fun u => by rw [World.size_setCell]; exact h7
        have hne : ∀ i, (⟨g, 0, none⟩ : Addr) ≠ ⟨w.heap.size, i, none⟩ := fun i h => by cases h; omega
        refine ⟨k + 1, by omega, by go_num, (hb.setCell (Nat.le_refl _) _).alloc (by rw [World.size_setCell]; omega) _, ?_, ?_, ?_, ?_, ?_, ?_, ?_⟩
        · rw [World.cell?_alloc_past _ _ _ (hgs _), World.cell?_setCell_same (u := .int .i64 k) _ _ _ h1]; simp
        · rw [World.frozen?_alloc_past _ _ _ (hgs _), World.frozen?_setCell]; exact h2
        · rw [World.cell?_alloc_past _ _ _ (h7s _), World.cell?_setCell_other _ _ _ _ (hne 0)]; exact h3
        · rw [World.cell?_alloc_past _ _ _ (h7s _), World.cell?_setCell_other _ _ _ _ (hne 1)]; exact h4
        · rw [World.frozen?_alloc_past _ _ _ (h7s _), World.frozen?_setCell]; exact h5
        · rw [World.frozen?_alloc_past _ _ _ (h7s _), World.frozen?_setCell]; exact h6
        · rw [World.size_alloc]; have := h7s (.int .i64 (k + 1)); omega
      case measure => simp [intOf]; omega
    · obtain rfl : k = l.length := by omega
      go_wp2
      refine bodyPost_ret (v := .tuple #[.agg #[.int .i64 0, .int .i64 0], .int .i64 0, .int .i64 70]) ?_ rfl ⟨rfl, ?_, ?_⟩
      · simp [results, Try.results28, go_sem, h3, h4]
      · exact (hb.setCell (by simp; omega) _).setCell (by simp; omega) _
      · have hne : ∀ i, (⟨w.heap.size, i, none⟩ : Addr) ≠ ⟨g, 0, none⟩ := fun i h => by cases h; omega
        rw [World.cell?_setCell_other _ _ _ _ (hne 1), World.cell?_setCell_other _ _ _ _ (hne 0)]; exact h1

theorem pick_nil (v : Value) (w : World) :
    Calls Try.prog 28 #[v, .nilFunc] w fun e w' => e = .returned (.tuple #[.agg #[.int .i64 0, .int .i64 0], .int .i64 0, .int .i64 3]) ∧ w.alloc (.cells #[.int .i64 0, .int .i64 0] 67) = w' := by
  go_enter Try.func28, Try.ntmps28
  go_wp2
  refine bodyPost_ret (v := .tuple #[.agg #[.int .i64 0, .int .i64 0], .int .i64 0, .int .i64 3]) ?_ rfl ⟨rfl, ?_⟩
  · simp [results, Try.results28, go_sem]
  · rfl

set_option maxRecDepth 100000 in
theorem none_walk (A : Option Addr) (c : Nat) (l : List (Int × Int)) (W : World) (hl : IdsAt W A l) (hc : l.length * 16 ≤ 140737488351232) :
    Calls Try.prog 10 #[.slice A l.length c] W (Lawful W) := by
  have hl1 : IdsAt (W.alloc (.cells #[.int .i64 0] 3)) A l := hl.below ((Below.refl _ _).alloc (Nat.le_refl _) _)
  have hA : ∀ b o, A = some ⟨b, o, none⟩ → 0 < l.length → b < W.heap.size := fun b o h h0 => by
    obtain ⟨b', o', h', hb, _⟩ := hl 0 h0
    rw [h] at h'
    cases h'
    exact hb
  go_enter Try.func10, Try.ntmps10
  go_wp2_with fail
  refine (pick_none W.heap.size A c l _ hl1 hc (by simp) (fun b o h h0 => hA b o h h0) (by simp) (by simp)).mono ?_
  rintro e w1 ⟨rfl, hb, h1⟩
  have hz := hb.size
  rw [World.size_alloc] at hz
  have hlt : W.heap.size < w1.heap.size := by omega
  have hle0 : W.heap.size ≤ w1.heap.size := by omega
  have hle1 : W.heap.size ≤ w1.heap.size + 1 := by omega
  have hlt1 : W.heap.size < w1.heap.size + 1 := by omega
  have hlt2 : W.heap.size < w1.heap.size + 1 + 1 := by omega
  have hb' : Below W.heap.size W w1 := ((Below.refl _ _).alloc (Nat.le_refl _) _).trans hb
  clear hl hl1 hA hb
  go_wp2_with (go_at_call 28; refine (pick_nil _ _).mono ?_; rintro e w' ⟨rfl, rfl⟩)
  go_ret
  exact ⟨rfl, ((hb'.alloc hle0 _).alloc (by simp; omega) _).alloc (by simp; omega) _⟩

set_option maxRecDepth 100000 in
theorem StacksNone_opened {H : Type} (enc : TypeId × Value → H) (W : World) (base : Nat) (args : Array Value) (hlen : args.size = Try.f10.params.size)
    (hval : ∀ (j : Nat) t v, Try.f10.params[j]? = some t → args[j]? = some v → Value.okWide Try.prog W .any base t v)
    (hred : ∀ (j : Nat) t v, Try.f10.params[j]? = some t → args[j]? = some v → Red enc Try.prog W t v.cells.toList) :
    Calls Try.prog 10 args W (Lawful W) := by
  rw [Try.params10] at hlen hval hred
  obtain ⟨v0, rfl⟩ := args1 (by simpa using hlen)
  obtain ⟨a0, n0, c0, rfl⟩ := okWide_slice Try.underlying65 (hval 0 65 v0 rfl rfl)
  obtain ⟨A, c, l, hcs, h1, h2, h3, _, _⟩ := red_ids Try.underlying65 Try.underlying67 Try.underlying3 (by kernel_rfl) (by kernel_rfl) (by kernel_rfl) (hred 0 65 _ rfl rfl)
  simp [Value.cells] at hcs
  obtain ⟨rfl, rfl, rfl⟩ := hcs
  exact none_walk _ _ _ W h3 (by omega)
set_option maxRecDepth 100000 in
theorem StacksNone_lifted (os : Os) (started : os.Started) (H : Type) (enc : TypeId × Value → H) :
    ReturnsInHanded {} Try.checked os 10 .any (Rows.stacksNoneSpec.pre6 enc Try.prog Try.f10 [] false) (Rows.stacksNoneSpec.post enc Try.prog Try.f10 false true false false) :=
  law_lifted (C := Try.checked) (tb := 4) Try.own started (by kernel_rfl) Try.func10
    (ChangeSpec.witness6 (enc := enc) (C := Try.checked) false ⟨#[], #[.slice none 0 0], []⟩ 8 (by kernel_rfl) (by kernel_rfl) (by kernel_rfl) (by kernel_rfl))
    rfl Try.laidOut (by kernel_rfl) (by kernel_rfl) Try.underlying4
    (by intro ds h; match ds, h with | [_], _ => rfl) (fun W base args hlen hval hred => StacksNone_opened enc W base args hlen hval hred)

theorem StacksNone_holds : Rows.StacksNoneSaid :=
  OpenClaim.holds_of_wide 10 Try.f10 rfl rfl rfl rfl rfl rfl rfl ⟨rfl, rfl, rfl, rfl, rfl⟩ rfl rfl rfl rfl rfl (by kernel_rfl) Try.func10 (by kernel_rfl)
    (of_decide_eq_true (by kernel_rfl)) (by unfold Func.isWrapper; rw [if_neg (of_decide_eq_false (by kernel_rfl))]; exact ⟨rfl, rfl⟩)
    (fun os started H enc _ => StacksNone_lifted os started H enc)
#print axioms StacksNone_holds
end Go.Proofs.Ytejlpdcoaejciaa
