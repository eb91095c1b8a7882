/- XformEarlierLeft_card, part 30. -/
import Derived.Test.YtloccjkcmlkifaaDoorQEl19
import Derived.Test.YtloccjkcmlkifaaDoorQEl27
import Derived.Test.YtloccjkcmlkifaaDoorQEl29

namespace Go.Proofs.YtloccjkcmlkifaaDoor.PAll
open Go.RowKit Go.Proofs.YtloccjkcmlkifaaDoorW.PrintWords Go.Proofs.YtloccjkcmlkifaaDoorW.PrintLast Go.Proofs.YtloccjkcmlkifaaDoorW.PrintMore
attribute [local go_sem] max2_int min2_int max_two min_two max_three min_three max_four min_four   -- for this text's walks alone
set_option linter.unusedVariables false
set_option linter.unusedSimpArgs false

attribute [local go_sem high] idx34_0 idx34_1 idx35_0 idx35_1
def op_Clone.f (a0_0 : Int) (a0_1 : Int) (a0_2 : Int) (a0_3 : Int) (a0_4 : ByteArray) (l0_5 : List (S94)) (a0_6 : Int) (a0_7 : Int) (a0_8 : Bool) : Option (Int × Int × Int × Int × ByteArray × (List (S94)) × Int × Int × Bool) := if ([] : List (S94)).length + l0_5.length < 8796093022208 then (some (a0_0, a0_1, a0_2, a0_3, a0_4, (([] : List (S94)) ++ l0_5), a0_6, a0_7, a0_8)) else (none)
set_option maxHeartbeats 8000000 in
set_option maxRecDepth 100000 in
theorem op_Clone.calls (a0_0 : Int) (a0_1 : Int) (a0_2 : Int) (a0_3 : Int) (a0_4 : ByteArray) (A0_5 : Option Addr) (c0_5 : Nat) (l0_5 : List (S94)) (a0_6 : Int) (a0_7 : Int) (a0_8 : Bool) (r1 : Int) (r2 : Int) (r3 : Int) (r4 : Int) (r5 : ByteArray) (r6 : List (S94)) (r7 : Int) (r8 : Int) (r9 : Bool) (w : World) (hr0_5 : Kd.C k94 w A0_5 l0_5.length l0_5) (hc0_5 : l0_5.length ≤ c0_5) (h : op_Clone.f a0_0 a0_1 a0_2 a0_3 a0_4 l0_5 a0_6 a0_7 a0_8 = some (r1, r2, r3, r4, r5, r6, r7, r8, r9)) :
 Calls Tryd.prog 64 #[.agg #[.int .i64 a0_0, .int .i64 a0_1, .int .i64 a0_2, .int .i64 a0_3, .string a0_4, .slice A0_5 l0_5.length c0_5, .int .i64 a0_6, .int .i64 a0_7, .bool a0_8]] w fun e w' => ∃ v5_ : Value, e = .returned (.agg #[.int .i64 r1, .int .i64 r2, .int .i64 r3, .int .i64 r4, .string r5, v5_, .int .i64 r7, .int .i64 r8, .bool r9]) ∧ Kd.R k94 94 w' w.heap.size (fun _ => True) v5_ r6 ∧ Below w.heap.size w w' := by
 have hu41 := Tryd.underlying41
 have HR0_5 := Aside0.mk hr0_5
 have HC0_5 := Aside0.mk hc0_5
 clear hr0_5 hc0_5
 have HB := Aside0.mk (Below.refl w.heap.size w)
 have H : (if ([] : List (S94)).length + l0_5.length < 8796093022208 then (some (a0_0, a0_1, a0_2, a0_3, a0_4, (([] : List (S94)) ++ l0_5), a0_6, a0_7, a0_8)) else (none)) = some (r1, r2, r3, r4, r5, r6, r7, r8, r9) := h
 clear h
 by_cases c2 : ([] : List (S94)).length + l0_5.length < 8796093022208
 ·rw [if_pos c2] at H
  have LMc2 := Aside0.mk c2
  clear c2
  obtain ⟨y140, hy140⟩ : ∃ y_ : List (S94), y_ = (([] : List (S94)) ++ l0_5) := ⟨_, rfl⟩
  replace H : (some (a0_0, a0_1, a0_2, a0_3, a0_4, y140, a0_6, a0_7, a0_8)) = some (r1, r2, r3, r4, r5, r6, r7, r8, r9) := by first | (rw [hy140]; with_reducible exact H) | (have H2_ := (Option.bind_some _ _).symm.trans H; rw [hy140]; with_reducible exact H2_) | (have H2_ := (Option.bind_some _ _).symm.trans H; with_reducible exact H2_) | with_reducible exact H | (rw [hy140]; exact H) | exact H
  have Ny140 := Aside0.mk hy140
  clear hy140
  simp only [Option.some.injEq, Prod.mk.injEq] at H
  obtain ⟨rfl, rfl, rfl, rfl, rfl, rfl, rfl, rfl, rfl⟩ := H
  go_enter Tryd.func64, Tryd.ntmps64
  go_wp2_with (first | ((with_reducible refine gate_dst (N := 1) rfl ?_); refine bxE_ 1 41 #[.int .i64 a0_0, .int .i64 a0_1, .int .i64 a0_2, .int .i64 a0_3, .string a0_4, .slice A0_5 l0_5.length c0_5, .int .i64 a0_6, .int .i64 a0_7, .bool a0_8] ?_; intro gb138 hg w3 hbox hb; have BK138 := Aside0.mk (hbox); have GW138 := gee_ hg HB; have GE138 := gee_ hg HB; replace HB := belB_ HB hb; clear hb hbox hg) | ((with_reducible refine gate_dst (N := 2) rfl ?_); refine bxE_ 2 41 #[.int .i64 0, .int .i64 0, .int .i64 0, .int .i64 0, .string (⟨#[]⟩ : ByteArray), .slice none 0 0, .int .i64 0, .int .i64 0, .bool false] ?_; intro gb139 hg w4 hbox hb; have BK139 := Aside0.mk (hbox); have GW139 := gee_ hg HB; have GE139 := gee_ hg HB; have NB138_139 := neL_ hg BK138; have NB139_138 := neR_ hg BK138; replace BK138 := blkB_ BK138 hb; replace HB := belB_ HB hb; clear hb hbox hg; have hnb5 := NB138_139.out; have hnc5 := NB139_138.out; have hz_ := blk9_ BK138.out) | ((with_reducible refine gate_builtin (b := .append) (xs := #[.const (.slice none 0 0), .tmp 4]) rfl ?_); at_builtin; refine Kd.R_append_rows k94 (w0 := w) w.heap.size rfl (.const (.slice none 0 0)) (.tmp 4) 39 94 (.agg #[(.int .i64 0), (.int .i64 0)]) 16 rfl Tryd.underlying39 info94 rfl (by decide) (by omega) (.slice none 0 0) ([] : List (S94)) l0_5 _ _ _ (fun _ => True) (fun _ => False) rfl rfl ?aO ?aR (fun _ _ h => h) (fun _ h => h.elim) ?aF ?aB ?aS ?aL ?_; (case aR => exact CW_ ((Kd.C_below HR0_5.out HB.out))); (case aB => exact (belW_ HB)); (case aF => exact (fun _ _ => trivial)); (case aO => exact ((Kd.R_nil _ _ _ _ (fun _ => True)))); (case aS => exact (below_size (belW_ HB))); (case aL => have := LMc2.out; omega); intro v141 w7 ho hb hg hat; rw [← Ny140.out] at ho; have HO142 := Aside0.mk (ho); replace BK138 := Aside0.mk (blk_grown (blkW_ BK138) hg (by simp [Value.ownBlock])); replace BK139 := Aside0.mk (blk_grown (blkW_ BK139) hg (by simp [Value.ownBlock])); replace HB := Aside0.mk (hb); clear ho hb hg hat; obtain ⟨Ao8, co8, eo8⟩ := Kd.R_slice HO142.out; subst eo8; have hz_ := blk9_ BK138.out; have hz_ := blk9_ BK139.out) | ((with_reducible refine gate_store (t := 41) (p := 2) rfl ?_); refine store_event (t := 41) (p := 2) (v := ?vo_w11) (w1 := ((((((((((w7.setCell ⟨gb138, 5, none⟩ (.slice Ao8 y140.length co8)).setCell ⟨gb139, 0, none⟩ (.int .i64 a0_0)).setCell ⟨gb139, 1, none⟩ (.int .i64 a0_1)).setCell ⟨gb139, 2, none⟩ (.int .i64 a0_2)).setCell ⟨gb139, 3, none⟩ (.int .i64 a0_3)).setCell ⟨gb139, 4, none⟩ (.string a0_4)).setCell ⟨gb139, 5, none⟩ (.slice Ao8 y140.length co8)).setCell ⟨gb139, 6, none⟩ (.int .i64 a0_6)).setCell ⟨gb139, 7, none⟩ (.int .i64 a0_7)).setCell ⟨gb139, 8, none⟩ (.bool a0_8))) ?hg ?ho ?hn ?hr ?_; (case ho => rfl); (case hg => rfl); (case hn => rfl); (case hr => first | (go_simp; done) | (go_simp; rfl)); intro w11 hw; have n0_ : Aside0 (Kd.R k94 94 w11 w.heap.size (fun _ => True) (.slice Ao8 y140.length co8) y140) := ⟨(by rw [hw]; exact (RW_ <| Kd.R_mono (Kd.R_far (p := ⟨gb139, 8, none⟩) (Kd.R_far (p := ⟨gb139, 7, none⟩) (Kd.R_far (p := ⟨gb139, 6, none⟩) (Kd.R_far (p := ⟨gb139, 5, none⟩) (Kd.R_far (p := ⟨gb139, 4, none⟩) (Kd.R_far (p := ⟨gb139, 3, none⟩) (Kd.R_far (p := ⟨gb139, 2, none⟩) (Kd.R_far (p := ⟨gb139, 1, none⟩) (Kd.R_far (p := ⟨gb139, 0, none⟩) (Kd.R_far (p := ⟨gb138, 5, none⟩) (Kd.R_types (Kd.R_types HO142.out BK138.out (by decide)) BK139.out (by decide)) (fun _ hk => hk.1.2) (.slice Ao8 y140.length co8)) (fun _ hk => hk.2) (.int .i64 a0_0)) (fun _ hk => hk.2) (.int .i64 a0_1)) (fun _ hk => hk.2) (.int .i64 a0_2)) (fun _ hk => hk.2) (.int .i64 a0_3)) (fun _ hk => hk.2) (.string a0_4)) (fun _ hk => hk.2) (.slice Ao8 y140.length co8)) (fun _ hk => hk.2) (.int .i64 a0_6)) (fun _ hk => hk.2) (.int .i64 a0_7)) (fun _ hk => hk.2) (.bool a0_8)) (fun _ hk => trivial)))⟩; have n1_ : Aside0 (w11.heap[gb138]? = some (.cells #[.int .i64 a0_0, .int .i64 a0_1, .int .i64 a0_2, .int .i64 a0_3, .string a0_4, .slice Ao8 y140.length co8, .int .i64 a0_6, .int .i64 a0_7, .bool a0_8] 41 (0, 0))) := ⟨(by rw [hw]; exact (by (with_reducible repeat (first | refine blk_drewN ?_ _ | refine blk_drew ?_ | refine blk_alloc ?_ _)); refine blk_far ?_ NB138_139.out _; (with_reducible repeat (first | refine blk_drewN ?_ _ | refine blk_drew ?_ | refine blk_alloc ?_ _)); refine blk_far ?_ NB138_139.out _; (with_reducible repeat (first | refine blk_drewN ?_ _ | refine blk_drew ?_ | refine blk_alloc ?_ _)); refine blk_far ?_ NB138_139.out _; (with_reducible repeat (first | refine blk_drewN ?_ _ | refine blk_drew ?_ | refine blk_alloc ?_ _)); refine blk_far ?_ NB138_139.out _; (with_reducible repeat (first | refine blk_drewN ?_ _ | refine blk_drew ?_ | refine blk_alloc ?_ _)); refine blk_far ?_ NB138_139.out _; (with_reducible repeat (first | refine blk_drewN ?_ _ | refine blk_drew ?_ | refine blk_alloc ?_ _)); refine blk_far ?_ NB138_139.out _; (with_reducible repeat (first | refine blk_drewN ?_ _ | refine blk_drew ?_ | refine blk_alloc ?_ _)); refine blk_far ?_ NB138_139.out _; (with_reducible repeat (first | refine blk_drewN ?_ _ | refine blk_drew ?_ | refine blk_alloc ?_ _)); refine blk_far ?_ NB138_139.out _; (with_reducible repeat (first | refine blk_drewN ?_ _ | refine blk_drew ?_ | refine blk_alloc ?_ _)); refine blk_far ?_ NB138_139.out _; (with_reducible repeat (first | refine blk_drewN ?_ _ | refine blk_drew ?_ | refine blk_alloc ?_ _)); refine blk_put (cs := #[.int .i64 a0_0, .int .i64 a0_1, .int .i64 a0_2, .int .i64 a0_3, .string a0_4, .slice A0_5 l0_5.length c0_5, .int .i64 a0_6, .int .i64 a0_7, .bool a0_8]) ?_ 5 _ rfl; (with_reducible repeat (first | refine blk_drewN ?_ _ | refine blk_drew ?_ | refine blk_alloc ?_ _)); exact BK138.out))⟩; have n2_ : Aside0 (w11.heap[gb139]? = some (.cells #[.int .i64 a0_0, .int .i64 a0_1, .int .i64 a0_2, .int .i64 a0_3, .string a0_4, .slice Ao8 y140.length co8, .int .i64 a0_6, .int .i64 a0_7, .bool a0_8] 41 (0, 0))) := ⟨(by rw [hw]; exact (by (with_reducible repeat (first | refine blk_drewN ?_ _ | refine blk_drew ?_ | refine blk_alloc ?_ _)); refine blk_put (cs := #[.int .i64 a0_0, .int .i64 a0_1, .int .i64 a0_2, .int .i64 a0_3, .string a0_4, .slice Ao8 y140.length co8, .int .i64 a0_6, .int .i64 a0_7, .bool false]) ?_ 8 _ rfl; (with_reducible repeat (first | refine blk_drewN ?_ _ | refine blk_drew ?_ | refine blk_alloc ?_ _)); refine blk_put (cs := #[.int .i64 a0_0, .int .i64 a0_1, .int .i64 a0_2, .int .i64 a0_3, .string a0_4, .slice Ao8 y140.length co8, .int .i64 a0_6, .int .i64 0, .bool false]) ?_ 7 _ rfl; (with_reducible repeat (first | refine blk_drewN ?_ _ | refine blk_drew ?_ | refine blk_alloc ?_ _)); refine blk_put (cs := #[.int .i64 a0_0, .int .i64 a0_1, .int .i64 a0_2, .int .i64 a0_3, .string a0_4, .slice Ao8 y140.length co8, .int .i64 0, .int .i64 0, .bool false]) ?_ 6 _ rfl; (with_reducible repeat (first | refine blk_drewN ?_ _ | refine blk_drew ?_ | refine blk_alloc ?_ _)); refine blk_put (cs := #[.int .i64 a0_0, .int .i64 a0_1, .int .i64 a0_2, .int .i64 a0_3, .string a0_4, .slice none 0 0, .int .i64 0, .int .i64 0, .bool false]) ?_ 5 _ rfl; (with_reducible repeat (first | refine blk_drewN ?_ _ | refine blk_drew ?_ | refine blk_alloc ?_ _)); refine blk_put (cs := #[.int .i64 a0_0, .int .i64 a0_1, .int .i64 a0_2, .int .i64 a0_3, .string (⟨#[]⟩ : ByteArray), .slice none 0 0, .int .i64 0, .int .i64 0, .bool false]) ?_ 4 _ rfl; (with_reducible repeat (first | refine blk_drewN ?_ _ | refine blk_drew ?_ | refine blk_alloc ?_ _)); refine blk_put (cs := #[.int .i64 a0_0, .int .i64 a0_1, .int .i64 a0_2, .int .i64 0, .string (⟨#[]⟩ : ByteArray), .slice none 0 0, .int .i64 0, .int .i64 0, .bool false]) ?_ 3 _ rfl; (with_reducible repeat (first | refine blk_drewN ?_ _ | refine blk_drew ?_ | refine blk_alloc ?_ _)); refine blk_put (cs := #[.int .i64 a0_0, .int .i64 a0_1, .int .i64 0, .int .i64 0, .string (⟨#[]⟩ : ByteArray), .slice none 0 0, .int .i64 0, .int .i64 0, .bool false]) ?_ 2 _ rfl; (with_reducible repeat (first | refine blk_drewN ?_ _ | refine blk_drew ?_ | refine blk_alloc ?_ _)); refine blk_put (cs := #[.int .i64 a0_0, .int .i64 0, .int .i64 0, .int .i64 0, .string (⟨#[]⟩ : ByteArray), .slice none 0 0, .int .i64 0, .int .i64 0, .bool false]) ?_ 1 _ rfl; (with_reducible repeat (first | refine blk_drewN ?_ _ | refine blk_drew ?_ | refine blk_alloc ?_ _)); refine blk_put (cs := #[.int .i64 0, .int .i64 0, .int .i64 0, .int .i64 0, .string (⟨#[]⟩ : ByteArray), .slice none 0 0, .int .i64 0, .int .i64 0, .bool false]) ?_ 0 _ rfl; (with_reducible repeat (first | refine blk_drewN ?_ _ | refine blk_drew ?_ | refine blk_alloc ?_ _)); refine blk_far ?_ NB139_138.out _; (with_reducible repeat (first | refine blk_drewN ?_ _ | refine blk_drew ?_ | refine blk_alloc ?_ _)); exact BK139.out))⟩; have n3_ : Aside0 (Below w.heap.size w w11) := ⟨(by rw [hw]; exact (belW_ HB))⟩; clear hw; clear HO142; clear BK138; clear BK139; clear HB; have HO142 := n0_; have BK138 := n1_; have BK139 := n2_; have HB := n3_; clear n0_ n1_ n2_ n3_))
  refine bodyPost_ret (results_cell_row rfl _ _ gb139 41 #[.int .i64 a0_0, .int .i64 a0_1, .int .i64 a0_2, .int .i64 a0_3, .string a0_4, .slice Ao8 y140.length co8, .int .i64 a0_6, .int .i64 a0_7, .bool a0_8] (0, 0) _ rfl (blkW_ BK139) Tryd.underlying41 rfl (by kernel_rfl)) rfl ?_
  exact ⟨_, rs_, RW_ <| HO142.out, belW_ HB⟩
 ·rw [if_neg c2] at H
  exact absurd H (by simp)

def span_outside.f (a0 : Int) : Option (Bool) := if a0 < 0 then (some true) else (some (decide (a0 > 1048576)))
set_option maxHeartbeats 8000000 in
set_option maxRecDepth 100000 in
theorem span_outside.calls (a0 : Int) (r : Bool) (w : World) (h : span_outside.f a0 = some r) :
 Calls Tryd.prog 91 #[.int .i64 a0] w fun e w' => e = .returned (.bool r) ∧ Drawn0 w w' := by
 have H : (if a0 < 0 then (some true) else (some (decide (a0 > 1048576)))) = some r := h
 clear h
 repeat' (first | (replace H := ifE_ H; rcases H with ⟨_, _, H⟩ | ⟨_, _, H⟩) | (replace H := ifL_ H; rcases H with ⟨_, _, H⟩ | ⟨_, _, H⟩) | (replace H := ifB_ H; rcases H with ⟨_, H⟩ | ⟨_, H⟩) | (replace H := ifG_ H; rcases H with ⟨_, _, H⟩ | ⟨_, _, H⟩) | (replace H := ifGt_ H; rcases H with ⟨_, H⟩ | ⟨_, H⟩) | (replace H := ifGe_ H; rcases H with ⟨_, H⟩ | ⟨_, H⟩) | (replace H := ifD_ H; rcases H with ⟨_, H⟩ | ⟨_, H⟩))
 all_goals (obtain rfl := Option.some.inj H; go_enter Tryd.func91, Tryd.ntmps91; go_wp2; go_ret; exact ⟨ok_, dr_⟩)

def span_add.f (l0 : List (S94)) (a1 : Int) (a2 : Int) : Option ((List (S94))) := if a1 ≥ a2 then (some l0) else (if (l0.length : Int) > 0 then (if 0 ≤ (wrap64 ((l0.length : Int) - 1)) then (if (wrap64 ((l0.length : Int) - 1)) < (l0.length : Int) then (if ((rd_T94 l0 (wrap64 ((l0.length : Int) - 1))).f1) ≥ a1 then (some (l0.set ((wrap64 ((l0.length : Int) - 1)) : Int).toNat (⟨(rd_T94 l0 (wrap64 ((l0.length : Int) - 1))).f0, mx ((rd_T94 l0 (wrap64 ((l0.length : Int) - 1))).f1) a2⟩ : S94))) else (if l0.length < 8796093022208 then (some (l0 ++ [(⟨a1, a2⟩ : S94)])) else (none))) else (none)) else (none)) else (if l0.length < 8796093022208 then (some (l0 ++ [(⟨a1, a2⟩ : S94)])) else (none)))
set_option maxHeartbeats 8000000 in
set_option maxRecDepth 100000 in
theorem span_add.calls (P0_ : Nat → Prop) (u9000_ : Value) (l0 : List (S94)) (a1 : Int) (a2 : Int) (r : List (S94)) (w0 w : World) (hB : Below w0.heap.size w0 w) (ho0 : Kd.R k94 94 w w0.heap.size P0_ u9000_ l0) (h : span_add.f l0 a1 a2 = some r) :
 Calls Tryd.prog 92 #[u9000_, .int .i64 a1, .int .i64 a2] w fun e w' => ∃ v0_ : Value, e = .returned (v0_) ∧ Kd.R k94 94 w' w0.heap.size (fun k_ => (P0_ k_ ∨ w.heap.size ≤ k_)) v0_ r ∧ Below w0.heap.size w0 w' ∧ Kept w w' (fun k_ => P0_ k_) := by
 have hu94 := Tryd.underlying94
 have HO0 := Aside0.mk (show Kd.R k94 94 w w0.heap.size (fun k_ => (P0_ k_ ∨ w.heap.size ≤ k_)) u9000_ l0 from Kd.R_mono ho0 (fun k_ hk => (.inl hk)))
 have HK := Aside0.mk (Kept.refl w (fun k_ => P0_ k_))
 have HW0 := Aside0.mk hB.size
 have HB := Aside0.mk hB
 clear hB
 have H : (if a1 ≥ a2 then (some l0) else (if (l0.length : Int) > 0 then (if 0 ≤ (wrap64 ((l0.length : Int) - 1)) then (if (wrap64 ((l0.length : Int) - 1)) < (l0.length : Int) then (if ((rd_T94 l0 (wrap64 ((l0.length : Int) - 1))).f1) ≥ a1 then (some (l0.set ((wrap64 ((l0.length : Int) - 1)) : Int).toNat (⟨(rd_T94 l0 (wrap64 ((l0.length : Int) - 1))).f0, mx ((rd_T94 l0 (wrap64 ((l0.length : Int) - 1))).f1) a2⟩ : S94))) else (if l0.length < 8796093022208 then (some (l0 ++ [(⟨a1, a2⟩ : S94)])) else (none))) else (none)) else (none)) else (if l0.length < 8796093022208 then (some (l0 ++ [(⟨a1, a2⟩ : S94)])) else (none)))) = some r := h
 clear h
 by_cases c4 : a1 ≥ a2
 ·rw [if_pos c4] at H
  have c4b0 : decide (a2 ≤ a1) = true := decide_eq_true c4
  clear c4
  obtain rfl := Option.some.inj H
  go_enter Tryd.func92, Tryd.ntmps92
  go_wp2
  go_ret
  exact ⟨_, rs_, RW_ <| HO0.out, belW_ HB, by repeat (first | (with_reducible first | exact HK.out | apply Kept.alloc | apply Kept.drewN | apply Kept.drew) | exact HK.out)⟩
 ·rw [if_neg c4] at H
  have c4b0 : decide (a2 ≤ a1) = false := decide_eq_false c4
  clear c4
  by_cases c5 : (l0.length : Int) > 0
  ·rw [if_pos c5] at H
   have c5b0 : decide (0 < (l0.length : Int)) = true := decide_eq_true c5
   have c5b1 : decide (0 < l0.length) = true := decide_eq_true (by omega)
   clear c5
   obtain ⟨ji6, hji6⟩ : ∃ j_ : Int, (wrap64 ((l0.length : Int) - 1)) = j_ := ⟨_, rfl⟩
   replace H : (if 0 ≤ (ji6) then (if (ji6) < (l0.length : Int) then (if ((rd_T94 l0 (ji6)).f1) ≥ a1 then (some (l0.set ((ji6) : Int).toNat (⟨(rd_T94 l0 (ji6)).f0, mx ((rd_T94 l0 (ji6)).f1) a2⟩ : S94))) else (if l0.length < 8796093022208 then (some (l0 ++ [(⟨a1, a2⟩ : S94)])) else (none))) else (none)) else (none)) = some r := by first | (rw [hji6] at H; exact H) | (simp only [hji6] at H ⊢; exact H)
   have hji6w : (IntKind.i64.wrap ((l0.length : Int) - 1)) = ji6 := (i64_w _).trans hji6
   by_cases c7 : 0 ≤ (ji6)
   ·rw [if_pos c7] at H
    have c7b0 := decide_eq_true c7
    clear c7
    by_cases c8 : (ji6) < (l0.length : Int)
    ·rw [if_pos c8] at H
     have c8b0 := decide_eq_true c8
     clear c8
     by_cases c9 : ((rd_T94 l0 (ji6)).f1) ≥ a1
     ·rw [if_pos c9] at H
      have c9b0 : decide (a1 ≤ ((rd_T94 l0 (ji6)).f1)) = true := decide_eq_true c9
      clear c9
      obtain ⟨ji10, hji10⟩ : ∃ j_ : Int, (mx ((rd_T94 l0 (ji6)).f1) a2) = j_ := ⟨_, rfl⟩
      replace H : (some (l0.set ((ji6) : Int).toNat (⟨(rd_T94 l0 (ji6)).f0, ji10⟩ : S94))) = some r := by first | (rw [hji10] at H; exact H) | (simp only [hji10] at H ⊢; exact H)
      have hji10_ : (if ((rd_T94 l0 (ji6)).f1) < a2 then a2 else ((rd_T94 l0 (ji6)).f1)) = ji10 := hji10
      obtain ⟨y145, hy145⟩ : ∃ y_ : List (S94), y_ = (l0.set ((ji6) : Int).toNat (⟨(rd_T94 l0 (ji6)).f0, ji10⟩ : S94)) := ⟨_, rfl⟩
      replace H : (some y145) = some r := by first | (rw [hy145]; with_reducible exact H) | (have H2_ := (Option.bind_some _ _).symm.trans H; rw [hy145]; with_reducible exact H2_) | (have H2_ := (Option.bind_some _ _).symm.trans H; with_reducible exact H2_) | with_reducible exact H | (rw [hy145]; exact H) | exact H
      have Ny145 := Aside0.mk hy145
      clear hy145
      obtain rfl := Option.some.inj H
      obtain ⟨Ao12, co12, eo12⟩ := Kd.R_slice HO0.out
      subst eo12
      have p143 := dz_ ((ji6) : Int)
      have q143 := dl_ (ji6) (l0.length : Int)
      obtain ⟨ad143, e143, hx143_0, hx143_1⟩ := at_T94 (Kd.R_reads' HO0.out).2.2 (ji6) p143 q143
      cases e143
      replace p143 := eq_true p143
      replace q143 := eq_true q143
      have p144 := dz_ ((ji6) : Int)
      have q144 := dl_ (ji6) (l0.length : Int)
      obtain ⟨ad144, e144, hx144_0, hx144_1⟩ := at_T94 (Kd.R_reads' HO0.out).2.2 (ji6) p144 q144
      obtain rfl : ad143 = ad144 := (by injection e144)
      replace p144 := eq_true p144
      replace q144 := eq_true q144
      have p11 := dz_ ((ji6) : Int)
      have q11 : ((ji6) : Int) < ((l0.length : Int) : Int) := of_decide_eq_true (by first | (with_reducible assumption) | assumption)
      obtain ⟨go11, co11, eo11, gb11, gl11, cl11, HG11⟩ := Kd.R_form HO0.out (by omega)
      (first | cases eo11 | (injection eo11 with ea_ en_ ec_; (first | subst ea_ | (injection ea_ with ea_; subst ea_)); subst ec_; clear en_))
      have GB11 := Aside0.mk gb11
      have GG11 := Aside0.mk HG11
      clear gb11 gl11 HG11
      have HMgo11 := Aside0.mk (show (P0_ go11 ∨ w.heap.size ≤ go11) from (HO0.out.1 _ rfl))
      (first | simp only [add_plain] at hx143_0 | skip)
      (first | simp only [add_plain] at hx143_1 | skip)
      (first | simp only [add_plain] at hx144_0 | skip)
      (first | simp only [add_plain] at hx144_1 | skip)
      obtain ⟨ce11, hcl11, hM11, hcc11, hfr11⟩ := Kd.R_elem HO0.out z94 ((ji6) : Int) p11 q11
      obtain rfl := k94_openM hM11
      have hx11_0 : w.cell? ⟨go11, ((ji6) : Int).toNat * 2, none⟩ = some (.int .i64 ((rd_T94 l0 (ji6)).f0)) := hcc11 0 _ rfl
      have hx11_1 : w.cell? ⟨go11, ((ji6) : Int).toNat * 2 + 1, none⟩ = some (.int .i64 ((rd_T94 l0 (ji6)).f1)) := hcc11 1 _ rfl
      have hf11_0 : w.frozen? ⟨go11, ((ji6) : Int).toNat * 2, none⟩ = false := hfr11 0
      have hf11_1 : w.frozen? ⟨go11, ((ji6) : Int).toNat * 2 + 1, none⟩ = false := hfr11 1
      clear hcl11 hcc11 hfr11 hM11
      replace p11 := eq_true p11
      replace q11 := eq_true q11
      have HX13 := Aside0.mk (show Kd.R k94 94 w w0.heap.size (fun k_ => (P0_ k_ ∨ w.heap.size ≤ k_)) (.slice (some ⟨go11, 0, none⟩) l0.length co12) l0 from (RW_ <| HO0.out))
      obtain ⟨ce13, hcl13, hM13, hcc13, hfr13⟩ := Kd.R_elem HX13.out z94 ((ji6) : Int) (of_decide_eq_true (by first | (with_reducible assumption) | assumption)) (by have h_ : ((ji6) : Int) < ((l0.length : Int) : Int) := of_decide_eq_true (by first | (with_reducible assumption) | assumption); first | exact h_ | (have e_ := (Kd.R_reads' HO0.out).1; omega) | simpa using h_)
      obtain rfl := k94_openM hM13
      have HP13 := Kd.R_seg HX13.out ((ji6) : Int) (of_decide_eq_true (by first | (with_reducible assumption) | assumption)) (by have h_ : ((ji6) : Int) < ((l0.length : Int) : Int) := of_decide_eq_true (by first | (with_reducible assumption) | assumption); first | exact h_ | (have e_ := (Kd.R_reads' HO0.out).1; omega) | simpa using h_) (seg := [.int .i64 ji10]) (j := 1) hcl13 hcc13 (show 2 ≤ 2 from by decide) (x' := (⟨(rd_T94 l0 (ji6)).f0, ji10⟩ : S94)) (k94_mkM _ _ _ (⟨(rd_T94 l0 (ji6)).f0, ji10⟩ : S94) ) (fun _ hk => hk)
      have hx13_1 := hcc13 1 _ rfl
      (try simp only [show (k94).sz = 2 from rfl, Nat.mul_one, Nat.add_zero] at hx13_1)
      have hf13_1 := hfr13 1
      (try simp only [show (k94).sz = 2 from rfl, Nat.mul_one, Nat.add_zero] at hf13_1)
      clear hcl13 hcc13 hfr13 hM13
      go_enter Tryd.func92, Tryd.ntmps92
      go_wp2_with (((with_reducible refine gate_store (t := 3) (p := 38) rfl ?_); refine store_event (t := 3) (p := 38) (v := ?vo_w14) (w1 := (w.setCell ⟨go11, ((ji6) : Int).toNat * 2 + 1, none⟩ (.int .i64 ji10))) ?hg ?ho ?hn ?hr ?_; (case ho => rfl); (case hg => rfl); (case hn => rfl); (case hr => first | (go_simp; done) | (go_simp; rfl)); intro w14 hw; have hg : w.grownBy w14 (some go11) := (by rw [hw]; exact HP13.2); have hp_ : Kd.R k94 94 w14 w0.heap.size (fun k_ => (P0_ k_ ∨ w.heap.size ≤ k_)) (.slice (some ⟨go11, 0, none⟩) l0.length co12) y145 := (by rw [hw, Ny145.out]; exact HP13.1); clear HP13; replace HB := Aside0.mk ((by rw [hw]; exact below_set (HB.out) GB11.out : Below w0.heap.size w0 w14)); replace HK := Aside0.mk (Kept.of_grown (S := (fun k_ => P0_ k_)) hg (by repeat (first | (with_reducible first | exact HK.out | apply Kept.alloc | apply Kept.drewN | apply Kept.drew) | exact HK.out)) (fun k_ e_ => (HO0.out.1 k_ e_))); replace HO0 := Aside0.mk (hp_); clear hg hw hp_))
      go_ret
      exact ⟨_, by first | rfl | (simp only [← hji6, ← hji10]; first | rfl) | (simp [*] <;> rfl), RW_ <| HO0.out, belW_ HB, by repeat (first | (with_reducible first | exact HK.out | apply Kept.alloc | apply Kept.drewN | apply Kept.drew) | exact HK.out)⟩
     ·rw [if_neg c9] at H
      have c9b0 : decide (a1 ≤ ((rd_T94 l0 (ji6)).f1)) = false := decide_eq_false c9
      clear c9
      by_cases c15 : l0.length < 8796093022208
      ·rw [if_pos c15] at H
       have LMc15 := Aside0.mk c15
       clear c15
       obtain ⟨y146, hy146⟩ : ∃ y_ : List (S94), y_ = (l0 ++ [(⟨a1, a2⟩ : S94)]) := ⟨_, rfl⟩
       replace H : (some y146) = some r := by first | (rw [hy146]; with_reducible exact H) | (have H2_ := (Option.bind_some _ _).symm.trans H; rw [hy146]; with_reducible exact H2_) | (have H2_ := (Option.bind_some _ _).symm.trans H; with_reducible exact H2_) | with_reducible exact H | (rw [hy146]; exact H) | exact H
       have Ny146 := Aside0.mk hy146
       clear hy146
       obtain rfl := Option.some.inj H
       obtain ⟨Ao16, co16, eo16⟩ := Kd.R_slice HO0.out
       subst eo16
       have p143 := dz_ ((ji6) : Int)
       have q143 := dl_ (ji6) (l0.length : Int)
       obtain ⟨ad143, e143, hx143_0, hx143_1⟩ := at_T94 (Kd.R_reads' HO0.out).2.2 (ji6) p143 q143
       cases e143
       replace p143 := eq_true p143
       replace q143 := eq_true q143
       go_enter Tryd.func92, Tryd.ntmps92
       go_wp2_with (((with_reducible refine gate_builtin (b := .append) (xs := #[.tmp 40, .tmp 44]) rfl ?_); at_builtin; refine Kd.R_append k94 (w0 := w0) w0.heap.size rfl (.tmp 40) (.tmp 44) 39 94 (.agg #[(.int .i64 0), (.int .i64 0)]) 16 rfl Tryd.underlying39 info94 rfl (by decide) (by omega) (.slice (some ad143) l0.length co16) l0 (⟨a1, a2⟩ : S94) [.int .i64 a1, .int .i64 a2] (fun k_ => (P0_ k_ ∨ w.heap.size ≤ k_)) (fun _ => False) rfl rfl ?aP (fun _ hk => hk.elim) ?aF ?aO ?aB ?aS ?aL ?_; (case aP => exact k94_mkM _ _ _ (⟨a1, a2⟩ : S94)); (case aB => exact (belW_ HB)); (case aF => exact (fun k_ hk => (.inr (Nat.le_trans (by first | exact HK.out.1 | exact (show Kept w _ (fun k_ => P0_ k_) from by repeat (first | (with_reducible first | exact HK.out | apply Kept.alloc | apply Kept.drewN | apply Kept.drew) | exact HK.out)).1) hk)))); (case aO => exact (RW_ <| HO0.out)); (case aS => exact (below_size (belW_ HB))); (case aL => have := LMc15.out; omega); intro v147 w17 ho hb hg hat; rw [← Ny146.out] at ho; have HO148 := Aside0.mk (ho); replace HB := Aside0.mk (hb); replace HK := Aside0.mk (Kept.of_grown (S := (fun k_ => P0_ k_)) hg (by repeat (first | (with_reducible first | exact HK.out | apply Kept.alloc | apply Kept.drewN | apply Kept.drew) | exact HK.out)) (fun k_ e_ => (HO0.out.1 k_ e_))); clear HO0; clear ho hb hg hat))
       go_ret
       exact ⟨_, by first | rfl | (simp only [← hji6]; first | rfl) | (simp [*] <;> rfl), RW_ <| HO148.out, belW_ HB, by repeat (first | (with_reducible first | exact HK.out | apply Kept.alloc | apply Kept.drewN | apply Kept.drew) | exact HK.out)⟩
      ·rw [if_neg c15] at H
       exact absurd H (by simp)
    ·rw [if_neg c8] at H
     exact absurd H (by simp)
   ·rw [if_neg c7] at H
    exact absurd H (by simp)
  ·rw [if_neg c5] at H
   have c5b0 : decide (0 < (l0.length : Int)) = false := decide_eq_false c5
   have c5b1 : decide (0 < l0.length) = false := decide_eq_false (by omega)
   clear c5
   by_cases c18 : l0.length < 8796093022208
   ·rw [if_pos c18] at H
    have LMc18 := Aside0.mk c18
    clear c18
    obtain ⟨y149, hy149⟩ : ∃ y_ : List (S94), y_ = (l0 ++ [(⟨a1, a2⟩ : S94)]) := ⟨_, rfl⟩
    replace H : (some y149) = some r := by first | (rw [hy149]; with_reducible exact H) | (have H2_ := (Option.bind_some _ _).symm.trans H; rw [hy149]; with_reducible exact H2_) | (have H2_ := (Option.bind_some _ _).symm.trans H; with_reducible exact H2_) | with_reducible exact H | (rw [hy149]; exact H) | exact H
    have Ny149 := Aside0.mk hy149
    clear hy149
    obtain rfl := Option.some.inj H
    obtain ⟨Ao19, co19, eo19⟩ := Kd.R_slice HO0.out
    subst eo19
    go_enter Tryd.func92, Tryd.ntmps92
    go_wp2_with (((with_reducible refine gate_builtin (b := .append) (xs := #[.tmp 40, .tmp 44]) rfl ?_); at_builtin; refine Kd.R_append k94 (w0 := w0) w0.heap.size rfl (.tmp 40) (.tmp 44) 39 94 (.agg #[(.int .i64 0), (.int .i64 0)]) 16 rfl Tryd.underlying39 info94 rfl (by decide) (by omega) (.slice Ao19 l0.length co19) l0 (⟨a1, a2⟩ : S94) [.int .i64 a1, .int .i64 a2] (fun k_ => (P0_ k_ ∨ w.heap.size ≤ k_)) (fun _ => False) rfl rfl ?aP (fun _ hk => hk.elim) ?aF ?aO ?aB ?aS ?aL ?_; (case aP => exact k94_mkM _ _ _ (⟨a1, a2⟩ : S94)); (case aB => exact (belW_ HB)); (case aF => exact (fun k_ hk => (.inr (Nat.le_trans (by first | exact HK.out.1 | exact (show Kept w _ (fun k_ => P0_ k_) from by repeat (first | (with_reducible first | exact HK.out | apply Kept.alloc | apply Kept.drewN | apply Kept.drew) | exact HK.out)).1) hk)))); (case aO => exact (RW_ <| HO0.out)); (case aS => exact (below_size (belW_ HB))); (case aL => have := LMc18.out; omega); intro v150 w20 ho hb hg hat; rw [← Ny149.out] at ho; have HO151 := Aside0.mk (ho); replace HB := Aside0.mk (hb); replace HK := Aside0.mk (Kept.of_grown (S := (fun k_ => P0_ k_)) hg (by repeat (first | (with_reducible first | exact HK.out | apply Kept.alloc | apply Kept.drewN | apply Kept.drew) | exact HK.out)) (fun k_ e_ => (HO0.out.1 k_ e_))); clear HO0; clear ho hb hg hat))
    go_ret
    exact ⟨_, rs_, RW_ <| HO151.out, belW_ HB, by repeat (first | (with_reducible first | exact HK.out | apply Kept.alloc | apply Kept.drewN | apply Kept.drew) | exact HK.out)⟩
   ·rw [if_neg c18] at H
    exact absurd H (by simp)

def span_bounded.f (l0 : List (S94)) : Option ((List (S94)) × Int) := if (l0.length : Int) > 32768 then (some (([] : List (S94)), 21)) else (some (l0, 0))
set_option maxHeartbeats 8000000 in
set_option maxRecDepth 100000 in
theorem span_bounded.calls (P0_ : Nat → Prop) (u9000_ : Value) (l0 : List (S94)) (r1 : List (S94)) (r2 : Int) (w0 w : World) (hB : Below w0.heap.size w0 w) (ho0 : Kd.R k94 94 w w0.heap.size P0_ u9000_ l0) (h : span_bounded.f l0 = some (r1, r2)) :
 Calls Tryd.prog 93 #[u9000_] w fun e w' => ∃ v0_ : Value, e = .returned (.tuple #[v0_, .int .i64 r2]) ∧ Kd.R k94 94 w' w0.heap.size (fun k_ => (P0_ k_ ∨ w.heap.size ≤ k_)) v0_ r1 ∧ Below w0.heap.size w0 w' ∧ Kept w w' (fun k_ => P0_ k_) := by
 have HO0 := Aside0.mk (show Kd.R k94 94 w w0.heap.size (fun k_ => (P0_ k_ ∨ w.heap.size ≤ k_)) u9000_ l0 from Kd.R_mono ho0 (fun k_ hk => (.inl hk)))
 have HK := Aside0.mk (Kept.refl w (fun k_ => P0_ k_))
 have HW0 := Aside0.mk hB.size
 have HB := Aside0.mk hB
 clear hB
 have H : (if (l0.length : Int) > 32768 then (some (([] : List (S94)), 21)) else (some (l0, 0))) = some (r1, r2) := h
 clear h
 by_cases c2 : (l0.length : Int) > 32768
 ·rw [if_pos c2] at H
  have c2b0 : decide (32768 < (l0.length : Int)) = true := decide_eq_true c2
  have c2b1 : decide (32768 < l0.length) = true := decide_eq_true (by omega)
  clear c2
  simp only [Option.some.injEq, Prod.mk.injEq] at H
  obtain ⟨rfl, rfl⟩ := H
  obtain ⟨Ao3, co3, eo3⟩ := Kd.R_slice HO0.out
  subst eo3
  go_enter Tryd.func93, Tryd.ntmps93
  go_wp2
  go_ret2
  exact ⟨_, rs_, nl_, belW_ HB, by repeat (first | (with_reducible first | exact HK.out | apply Kept.alloc | apply Kept.drewN | apply Kept.drew) | exact HK.out)⟩
 ·rw [if_neg c2] at H
  have c2b0 : decide (32768 < (l0.length : Int)) = false := decide_eq_false c2
  have c2b1 : decide (32768 < l0.length) = false := decide_eq_false (by omega)
  clear c2
  simp only [Option.some.injEq, Prod.mk.injEq] at H
  obtain ⟨rfl, rfl⟩ := H
  obtain ⟨Ao4, co4, eo4⟩ := Kd.R_slice HO0.out
  subst eo4
  go_enter Tryd.func93, Tryd.ntmps93
  go_wp2
  go_ret2
  exact ⟨_, rs_, RW_ <| HO0.out, belW_ HB, by repeat (first | (with_reducible first | exact HK.out | apply Kept.alloc | apply Kept.drewN | apply Kept.drew) | exact HK.out)⟩

mutual
def span_Through.j0 : Nat → List (S94) → Int → Int → Bool → Option ((List (S94)) × Int)
 | 0, _, _, _, _ => none
 | k + 1, x0, x1, x2, x27 => if x27 = true then (some (([] : List (S94)), 12)) else (if (x0.length : Int) > 0 then (if 0 ≤ (wrap64 ((x0.length : Int) - 1)) then (if (wrap64 ((x0.length : Int) - 1)) < (x0.length : Int) then (if ((rd_T94 x0 (wrap64 ((x0.length : Int) - 1))).f1) > x1 then (if (wrap64 (((rd_T94 x0 (wrap64 ((x0.length : Int) - 1))).f1) + x2)) > 1048576 then (some (([] : List (S94)), 24)) else (span_Through.j1 k x0 x1 x2)) else (span_Through.j1 k x0 x1 x2)) else (none)) else (none)) else (span_Through.j1 k x0 x1 x2))
def span_Through.j1 : Nat → List (S94) → Int → Int → Option ((List (S94)) × Int)
 | 0, _, _, _ => none
 | k + 1, x0, x1, x2 => span_Through.l0 k x1 x2 ([] : List (S94)) x0 (x0.length : Int) 0
def span_Through.l0 : Nat → Int → Int → List (S94) → List (S94) → Int → Int → Option ((List (S94)) × Int)
 | 0, _, _, _, _, _, _ => none
 | k + 1, x1, x2, x11, x47, x48, x49 => if x49 < x48 then (if 0 ≤ x49 then (if x49 < (x47.length : Int) then ((span_add.f x11 ((rd_T94 x47 x49).f0) (mn ((rd_T94 x47 x49).f1) x1)).bind fun t159 => ((span_add.f t159 (wrap64 ((mx ((rd_T94 x47 x49).f0) x1) + x2)) (wrap64 (((rd_T94 x47 x49).f1) + x2))).bind fun t162 => (span_Through.l0 k x1 x2 t162 x47 x48 (wrap64 (x49 + 1))))) else (none)) else (none)) else ((span_bounded.f x11).bind fun bt165 => (some (bt165.1, bt165.2)))
end
def span_Through.f (k : Nat) (l0 : List (S94)) (a1 : Int) (a2 : Int) : Option ((List (S94)) × Int) := (span_Check.f k l0).bind fun bt152 => (if bt152.2 = 0 then ((span_outside.f a1).bind fun t154 => (if t154 = true then (span_Through.j0 k l0 a1 a2 true) else ((span_outside.f a2).bind fun t155 => (span_Through.j0 k l0 a1 a2 t155)))) else (some (([] : List (S94)), bt152.2)))
set_option maxHeartbeats 8000000 in
set_option maxRecDepth 100000 in
theorem span_Through.calls (k : Nat) (A0 : Option Addr) (c0 : Nat) (l0 : List (S94)) (a1 : Int) (a2 : Int) (r1 : List (S94)) (r2 : Int) (w : World) (hr0 : Kd.C k94 w A0 l0.length l0) (hc0 : l0.length ≤ c0) (h : span_Through.f k l0 a1 a2 = some (r1, r2)) :
 Calls Tryd.prog 73 #[.slice A0 l0.length c0, .int .i64 a1, .int .i64 a2] w fun e w' => ∃ v0_ : Value, e = .returned (.tuple #[v0_, .int .i64 r2]) ∧ Kd.R k94 94 w' w.heap.size (fun _ => True) v0_ r1 ∧ Below w.heap.size w w' := by
 have hu94 := Tryd.underlying94
 have HR0 := Aside0.mk hr0
 have HC0 := Aside0.mk hc0
 clear hr0 hc0
 have HB := Aside0.mk (Below.refl w.heap.size w)
 have H : ((span_Check.f k l0).bind fun bt152 => (if bt152.2 = 0 then ((span_outside.f a1).bind fun t154 => (if t154 = true then (span_Through.j0 k l0 a1 a2 true) else ((span_outside.f a2).bind fun t155 => (span_Through.j0 k l0 a1 a2 t155)))) else (some (([] : List (S94)), bt152.2)))) = some (r1, r2) := h
 clear h
 replace H := Option.bind_eq_some_iff.mp H
 obtain ⟨⟨t152, t153⟩, A40, H⟩ := H
 try dsimp only at H
 have A4 := Aside0.mk A40
 clear A40
 by_cases c5 : t153 = 0
 ·rw [if_pos c5] at H
  have c5b0 := beq_iff_eq.mpr c5
  have c5b1 := bne_eq_false_iff_eq.mpr c5
  clear c5
  have HC6 := Aside0.mk H
  clear H
  go_enter Tryd.func73, Tryd.ntmps73
  go_upto_region 4 with (((with_reducible refine gate_callee (f := 90) rfl ?_); refine goS_ 16 rfl Tryd.func90 #[.slice A0 l0.length c0] ?_; (with_reducible refine (span_Check.calls k _ _ l0 t152 t153 _ ?side1 ?side2 A4.out).mono ?_); (case side1 => exact CW_ (HR0.out)); (case side2 => exact HC0.out); rintro e w7 ⟨rfl, hb⟩; refine ⟨_, rfl, ?_⟩; replace HB := belB_ HB hb; try clear hb))
  (try simp only [Act.put, List.setIfInBounds_toArray, List.set_cons_zero, List.set_cons_succ])
  go_cut [27] (fun v27 wc => ∃ (kq : Nat) (x27_5 : Bool), v27 = .bool x27_5 ∧ Aside0 (span_Through.j0 kq l0 a1 a2 x27_5 = some (r1, r2)) ∧ Aside0 (kq ≤ k) ∧ Aside0 (Below w.heap.size w wc))
  case first =>
   have H := HC6.out
   clear HC6
   replace H := Option.bind_eq_some_iff.mp H
   obtain ⟨t154, A80, H⟩ := H
   try dsimp only at H
   have A8 := Aside0.mk A80
   clear A80
   by_cases c9 : t154 = true
   ·subst c9
    have H1 := H; rw [if_pos rfl] at H1
    clear H
    have H := H1
    clear H1
    have H' := Aside0.mk H
    clear H
    go_wp2_with (((with_reducible refine gate_callee (f := 91) rfl ?_); refine goS_ 23 rfl Tryd.func91 #[.int .i64 a1] ?_; (with_reducible refine (span_outside.calls a1 true _ A8.out).mono ?_); rintro e w' ⟨rfl, ⟨nd, rfl⟩⟩; refine ⟨_, rfl, ?_⟩))
    go_meet
    case rel => exact ⟨_, (true), ok_, H', ⟨lo_⟩, ⟨belW_ HB⟩⟩
   ·replace c9 := Bool.eq_false_iff.mpr c9
    subst c9
    have H1 := H; rw [if_neg (show ¬ (false = true) by decide)] at H1
    clear H
    have H := H1
    clear H1
    replace H := Option.bind_eq_some_iff.mp H
    obtain ⟨t155, A100, H⟩ := H
    try dsimp only at H
    have A10 := Aside0.mk A100
    clear A100
    have H' := Aside0.mk H
    clear H
    go_wp2_with (first | ((with_reducible refine gate_callee (f := 91) rfl ?_); refine goS_ 23 rfl Tryd.func91 #[.int .i64 a1] ?_; (with_reducible refine (span_outside.calls a1 false _ A8.out).mono ?_); rintro e w' ⟨rfl, ⟨nd, rfl⟩⟩; refine ⟨_, rfl, ?_⟩) | (go_at_call 91; (with_reducible refine (span_outside.calls a2 t155 _ A10.out).mono ?_); rintro e w' ⟨rfl, ⟨nd, rfl⟩⟩))
    go_meet
    case rel => exact ⟨_, (t155), ok_, H', ⟨lo_⟩, ⟨belW_ HB⟩⟩
  case rest =>
   clear HC6
   try clear c5
   try clear c5b0
   try clear c5b1
   obtain ⟨kq, x27_5, rfl, HA, HJ5, HB⟩ := hcut
   cases kq with
   | zero => exact absurd HA.out (by simp [span_Through.j0])
   | succ kj5 =>
    have H := HA.out
    clear HA
    simp only [span_Through.j0] at H
    by_cases c11 : x27_5 = true
    ·subst c11
     have H1 := H; rw [if_pos rfl] at H1
     clear H
     have H := H1
     clear H1
     simp only [Option.some.injEq, Prod.mk.injEq] at H
     obtain ⟨rfl, rfl⟩ := H
     go_wp2
     go_ret2
     exact ⟨_, rs_, nl_, belW_ HB⟩
    ·replace c11 := Bool.eq_false_iff.mpr c11
     subst c11
     have H1 := H; rw [if_neg (show ¬ (false = true) by decide)] at H1
     clear H
     have H := H1
     clear H1
     have HC12 := Aside0.mk H
     clear H
     go_upto_if 30 with (fail)
     go_cut [] (fun wc => ∃ (kq : Nat), Aside0 (span_Through.j1 kq l0 a1 a2 = some (r1, r2)) ∧ Aside0 (kq ≤ kj5) ∧ Aside0 (Below w.heap.size w wc))
     case first =>
      have H := HC12.out
      clear HC12
      by_cases c13 : (l0.length : Int) > 0
      ·rw [if_pos c13] at H
       have c13b0 : decide (0 < (l0.length : Int)) = true := decide_eq_true c13
       have c13b1 : decide (0 < l0.length) = true := decide_eq_true (by omega)
       clear c13
       (first | rw [c13b0] | (simp only [i64_w, i32_w]; rw [c13b0]) | rw [c13b1] | skip)
       obtain ⟨ji14, hji14⟩ : ∃ j_ : Int, (wrap64 ((l0.length : Int) - 1)) = j_ := ⟨_, rfl⟩
       replace H : (if 0 ≤ (ji14) then (if (ji14) < (l0.length : Int) then (if ((rd_T94 l0 (ji14)).f1) > a1 then (if (wrap64 (((rd_T94 l0 (ji14)).f1) + a2)) > 1048576 then (some (([] : List (S94)), 24)) else (span_Through.j1 kj5 l0 a1 a2)) else (span_Through.j1 kj5 l0 a1 a2)) else (none)) else (none)) = some (r1, r2) := by first | (rw [hji14] at H; exact H) | (simp only [hji14] at H ⊢; exact H)
       have hji14w : (IntKind.i64.wrap ((l0.length : Int) - 1)) = ji14 := (i64_w _).trans hji14
       by_cases c15 : 0 ≤ (ji14)
       ·rw [if_pos c15] at H
        have c15b0 := decide_eq_true c15
        clear c15
        by_cases c16 : (ji14) < (l0.length : Int)
        ·rw [if_pos c16] at H
         have c16b0 := decide_eq_true c16
         clear c16
         by_cases c17 : ((rd_T94 l0 (ji14)).f1) > a1
         ·rw [if_pos c17] at H
          have c17b0 : decide (a1 < ((rd_T94 l0 (ji14)).f1)) = true := decide_eq_true c17
          clear c17
          by_cases c18 : (wrap64 (((rd_T94 l0 (ji14)).f1) + a2)) > 1048576
          ·rw [if_pos c18] at H
           have c18b0 : decide (1048576 < (wrap64 (((rd_T94 l0 (ji14)).f1) + a2))) = true := decide_eq_true c18
           clear c18
           simp only [Option.some.injEq, Prod.mk.injEq] at H
           obtain ⟨rfl, rfl⟩ := H
           have p156 := dz_ ((ji14) : Int)
           have q156 := dl_ (ji14) (l0.length : Int)
           obtain ⟨ad156, e156, hx156_0, hx156_1⟩ := at_T94 HR0.out (ji14) p156 q156
           cases e156
           replace hx156_0 := pw_cell_below HB.out hx156_0
           replace hx156_1 := pw_cell_below HB.out hx156_1
           replace p156 := eq_true p156
           replace q156 := eq_true q156
           go_wp2
           go_ret2
           exact ⟨_, by first | rfl | (simp only [← hji14]; first | rfl) | (simp [*] <;> rfl), nl_, belW_ HB⟩
          ·rw [if_neg c18] at H
           have c18b0 : decide (1048576 < (wrap64 (((rd_T94 l0 (ji14)).f1) + a2))) = false := decide_eq_false c18
           clear c18
           have H' := Aside0.mk H
           clear H
           have p156 := dz_ ((ji14) : Int)
           have q156 := dl_ (ji14) (l0.length : Int)
           obtain ⟨ad156, e156, hx156_0, hx156_1⟩ := at_T94 HR0.out (ji14) p156 q156
           cases e156
           replace hx156_0 := pw_cell_below HB.out hx156_0
           replace hx156_1 := pw_cell_below HB.out hx156_1
           replace p156 := eq_true p156
           replace q156 := eq_true q156
           go_wp2
           go_meet
           case rel => exact ⟨_, H', ⟨lk_ HJ5⟩, ⟨belW_ HB⟩⟩
         ·rw [if_neg c17] at H
          have c17b0 : decide (a1 < ((rd_T94 l0 (ji14)).f1)) = false := decide_eq_false c17
          clear c17
          have H' := Aside0.mk H
          clear H
          have p156 := dz_ ((ji14) : Int)
          have q156 := dl_ (ji14) (l0.length : Int)
          obtain ⟨ad156, e156, hx156_0, hx156_1⟩ := at_T94 HR0.out (ji14) p156 q156
          cases e156
          replace hx156_0 := pw_cell_below HB.out hx156_0
          replace hx156_1 := pw_cell_below HB.out hx156_1
          replace p156 := eq_true p156
          replace q156 := eq_true q156
          go_wp2
          go_meet
          case rel => exact ⟨_, H', ⟨lk_ HJ5⟩, ⟨belW_ HB⟩⟩
        ·rw [if_neg c16] at H
         exact absurd H (by simp)
       ·rw [if_neg c15] at H
        exact absurd H (by simp)
      ·rw [if_neg c13] at H
       have c13b0 : decide (0 < (l0.length : Int)) = false := decide_eq_false c13
       have c13b1 : decide (0 < l0.length) = false := decide_eq_false (by omega)
       clear c13
       (first | rw [c13b0] | (simp only [i64_w, i32_w]; rw [c13b0]) | rw [c13b1] | skip)
       have H' := Aside0.mk H
       clear H
       go_wp2
       go_meet
       case rel => exact ⟨_, H', ⟨lk_ HJ5⟩, ⟨belW_ HB⟩⟩
     case rest =>
      clear HC12
      try clear p2
      try clear c5
      try clear c5b0
      try clear c5b1
      try clear c7
      try clear c9
      try clear c11
      try clear p2
      obtain ⟨kq, HA, HJ11, HB⟩ := hcut
      cases kq with
      | zero => exact absurd HA.out (by simp [span_Through.j1])
      | succ kj11 =>
       have H := HA.out
       clear HA
       simp only [span_Through.j1] at H
       have H' := Aside0.mk H
       clear H
       go_wp2
       go_loopg [11, 49] kj11 (fun kq v11 v49 w' => ∃ (x11_3 : List (S94)) (x49_3 : Int), v49 = .int .i64 x49_3 ∧ Aside0 (span_Through.l0 kq a1 a2 x11_3 l0 (l0.length : Int) x49_3 = some (r1, r2)) ∧ Aside0 (kq ≤ kj11) ∧ Aside0 (Kd.R k94 94 w' w.heap.size (fun _ => True) v11 x11_3) ∧ Aside0 (Below w.heap.size w w'))
       case atStart => exact ⟨(([] : List (S94))), (0), ok_, H', ⟨Nat.le_refl _⟩, ⟨nl_⟩, ⟨belW_ HB⟩⟩
       case round =>
        clear H'
        try clear c1
        try clear p1
        try clear q1
        try clear hx1
        try clear p2
        try clear c5
        try clear c5b0
        try clear c5b1
        try clear p6
        try clear c7
        try clear c9
        try clear c11
        try clear c13
        try clear c13b0
        try clear c13b1
        try clear c15
        try clear c15b0
        try clear p15
        try clear q15
        try clear hx15
        try clear c16
        try clear c16b0
        try clear c17
        try clear c17b0
        try clear c18
        try clear c18b0
        try clear hx156_0
        try clear hx156_1
        try clear p1
        try clear p15
        try clear p156
        try clear p2
        try clear p6
        try clear q1
        try clear q15
        try clear q156
        obtain ⟨x11_3, x49_3, rfl, HA, HK3, HO_11, HB⟩ := hrel
        cases gk with
        | zero => exact absurd HA.out (by simp [span_Through.l0])
        | succ k3 =>
         have H := HA.out
         clear HA
         simp only [span_Through.l0] at H
         by_cases c19 : x49_3 < (l0.length : Int)
         ·rw [if_pos c19] at H
          have c19b0 := decide_eq_true c19
          clear c19
          by_cases c20 : 0 ≤ x49_3
          ·rw [if_pos c20] at H
           have c20b0 := decide_eq_true c20
           clear c20
           by_cases c21 : x49_3 < (l0.length : Int)
           ·rw [if_pos c21] at H
            have c21b0 := decide_eq_true c21
            clear c21
            obtain ⟨ji22, hji22⟩ : ∃ j_ : Int, (mn ((rd_T94 l0 x49_3).f1) a1) = j_ := ⟨_, rfl⟩
            replace H : ((span_add.f x11_3 ((rd_T94 l0 x49_3).f0) (ji22)).bind fun t159 => ((span_add.f t159 (wrap64 ((mx ((rd_T94 l0 x49_3).f0) a1) + a2)) (wrap64 (((rd_T94 l0 x49_3).f1) + a2))).bind fun t162 => (span_Through.l0 k3 a1 a2 t162 l0 (l0.length : Int) (wrap64 (x49_3 + 1))))) = some (r1, r2) := by first | (rw [hji22] at H; exact H) | (simp only [hji22] at H ⊢; exact H)
            have hji22_ : (if a1 < ((rd_T94 l0 x49_3).f1) then a1 else ((rd_T94 l0 x49_3).f1)) = ji22 := hji22
            replace H := Option.bind_eq_some_iff.mp H
            obtain ⟨t159, A230, H⟩ := H
            try dsimp only at H
            have A23 := Aside0.mk A230
            clear A230
            obtain ⟨ji24, hji24⟩ : ∃ j_ : Int, (mx ((rd_T94 l0 x49_3).f0) a1) = j_ := ⟨_, rfl⟩
            replace H : ((span_add.f t159 (wrap64 ((ji24) + a2)) (wrap64 (((rd_T94 l0 x49_3).f1) + a2))).bind fun t162 => (span_Through.l0 k3 a1 a2 t162 l0 (l0.length : Int) (wrap64 (x49_3 + 1)))) = some (r1, r2) := by first | (rw [hji24] at H; exact H) | (simp only [hji24] at H ⊢; exact H)
            (try rw [hji24] at A23)
            have hji24_ : (if ((rd_T94 l0 x49_3).f0) < a1 then a1 else ((rd_T94 l0 x49_3).f0)) = ji24 := hji24
            replace H := Option.bind_eq_some_iff.mp H
            obtain ⟨t162, A250, H⟩ := H
            try dsimp only at H
            have A25 := Aside0.mk A250
            clear A250
            have H' := Aside0.mk H
            clear H
            have p157 := dz_ (x49_3 : Int)
            have q157 := dl_ x49_3 (l0.length : Int)
            obtain ⟨ad157, e157, hx157_0, hx157_1⟩ := at_T94 HR0.out x49_3 p157 q157
            cases e157
            replace hx157_0 := pw_cell_below HB.out hx157_0
            replace hx157_1 := pw_cell_below HB.out hx157_1
            replace p157 := eq_true p157
            replace q157 := eq_true q157
            go_wp2_with (first | ((with_reducible refine gate_dst (N := 13) rfl ?_); refine bxE_ 13 94 #[.int .i64 0, .int .i64 0] ?_; intro gb158 hg w26 hbox hb; have BK158 := Aside0.mk (hbox); have GW158 := gee_ hg HB; have GE158 := gee_ hg HB; replace HO_11 := Aside0.mk (Kd.R_below (Kd.R_elderB (RW_ <| HO_11.out) gb158 (Nat.le_of_eq hg.symm)) hb); replace HB := belB_ HB hb; clear hb hbox hg; have hz_ := blk2_ BK158.out) | ((with_reducible refine gate_store (t := 94) (p := 13) rfl ?_); refine store_event (t := 94) (p := 13) (v := ?vo_w28) (w1 := ((w26.setCell ⟨gb158, 0, none⟩ (.int .i64 ((rd_T94 l0 x49_3).f0))).setCell ⟨gb158, 1, none⟩ (.int .i64 ((rd_T94 l0 x49_3).f1)))) ?hg ?ho ?hn ?hr ?_; (case ho => rfl); (case hg => rfl); (case hn => rfl); (case hr => first | (go_simp; done) | (go_simp; rfl)); intro w28 hw; have n0_ : Aside0 (Kd.R k94 94 w28 w.heap.size (fun k_ => k_ ≠ gb158) u11 x11_3) := ⟨(by rw [hw]; exact (RW_ <| Kd.R_mono (Kd.R_far (p := ⟨gb158, 1, none⟩) (Kd.R_far (p := ⟨gb158, 0, none⟩) (Kd.R_mono HO_11.out (fun k_ hk => (⟨hk, hk.2⟩ : _ ∧ k_ ≠ gb158))) (fun _ hk => hk.2) (.int .i64 ((rd_T94 l0 x49_3).f0))) (fun _ hk => hk.2) (.int .i64 ((rd_T94 l0 x49_3).f1))) (fun _ hk => hk.1.2)))⟩; have n1_ : Aside0 (w28.heap[gb158]? = some (.cells #[.int .i64 ((rd_T94 l0 x49_3).f0), .int .i64 ((rd_T94 l0 x49_3).f1)] 94 (0, 0))) := ⟨(by rw [hw]; exact (by (with_reducible repeat (first | refine blk_drewN ?_ _ | refine blk_drew ?_ | refine blk_alloc ?_ _)); refine blk_put (cs := #[.int .i64 ((rd_T94 l0 x49_3).f0), .int .i64 0]) ?_ 1 _ rfl; (with_reducible repeat (first | refine blk_drewN ?_ _ | refine blk_drew ?_ | refine blk_alloc ?_ _)); refine blk_put (cs := #[.int .i64 0, .int .i64 0]) ?_ 0 _ rfl; (with_reducible repeat (first | refine blk_drewN ?_ _ | refine blk_drew ?_ | refine blk_alloc ?_ _)); exact BK158.out))⟩; have n2_ : Aside0 (Below w.heap.size w w28) := ⟨(by rw [hw]; exact (belW_ HB))⟩; clear hw; clear HO_11; clear BK158; clear HB; have HO_11 := n0_; have BK158 := n1_; have HB := n2_; clear n0_ n1_ n2_; have hz_ := blk2_ BK158.out; obtain ⟨Ao30, co30, eo30⟩ := Kd.R_slice HO_11.out; subst eo30) | ((with_reducible refine gate_callee (f := 92) rfl ?_); refine goesL_ (some 60) rfl rfl Tryd.func92 (by kernel_rfl) rfl #[.slice Ao30 x11_3.length co30, .int .i64 ((rd_T94 l0 x49_3).f0), .int .i64 ji22] rfl (by (try simp only [List.map_toArray, List.map_cons, List.map_nil]); first | done | (simp only [hji22]; rfl) | rfl | (simp only [List.length_drop, List.length_take]; rfl)) ?_; (with_reducible refine (span_add.calls (fun k_ => some k_ = (.slice Ao30 x11_3.length co30 : Value).ownBlock) (.slice Ao30 x11_3.length co30) x11_3 ((rd_T94 l0 x49_3).f0) ji22 t159 w _ ?side1 ?side2 A23.out).mono ?_); (case side1 => repeat (first | (with_reducible first | exact HB.out | apply below_alloc | apply pw_below_drewN | apply below_drew1 | refine below_set ?_ GE158.out) | exact HB.out)); (case side2 => exact Kd.R_tight rfl HO_11.out); rintro e w31 ⟨v160, rfl, ho0, hb, hkp⟩; refine ⟨_, rfl, ?_⟩; have HO161 := Aside0.mk (Kd.R_mono (ok' := fun k_ => k_ ≠ gb158) ho0 (fun k_ hk_ => Or.elim hk_ (fun hs_ => fun e_ => (Kd.R_away HO_11.out (fun _ hk => hk)) (by rw [← e_]; exact hs_)) (fun hn_ => (Kd.freshB (blkW_ BK158) k_ hn_)))); replace BK158 := Aside0.mk (blk_kept (blkW_ BK158) hkp (fun hs_ => (fun e_ => (Kd.R_away HO_11.out (fun _ hk => hk)) e_) hs_)); replace HB := Aside0.mk (hb); clear HO_11; (try clear hb); (try clear hkp); (try clear ho0); have hz_ := blk2_ BK158.out; obtain ⟨Ao33, co33, eo33⟩ := Kd.R_slice HO161.out; subst eo33) | ((with_reducible refine gate_callee (f := 92) rfl ?_); refine goesL_ (some 72) rfl rfl Tryd.func92 (by kernel_rfl) rfl #[.slice Ao33 t159.length co33, .int .i64 (wrap64 ((ji24) + a2)), .int .i64 (wrap64 (((rd_T94 l0 x49_3).f1) + a2))] rfl (by (try simp only [List.map_toArray, List.map_cons, List.map_nil]); first | done | (simp only [hji24]; rfl) | rfl | (simp only [List.length_drop, List.length_take]; rfl)) ?_; (with_reducible refine (span_add.calls (fun k_ => some k_ = (.slice Ao33 t159.length co33 : Value).ownBlock) (.slice Ao33 t159.length co33) t159 (wrap64 ((ji24) + a2)) (wrap64 (((rd_T94 l0 x49_3).f1) + a2)) t162 w _ ?side1 ?side2 A25.out).mono ?_); (case side1 => repeat (first | (with_reducible first | exact HB.out | apply below_alloc | apply pw_below_drewN | apply below_drew1 | refine below_set ?_ GE158.out) | exact HB.out)); (case side2 => exact Kd.R_tight rfl HO161.out); rintro e w34 ⟨v163, rfl, ho0, hb, hkp⟩; refine ⟨_, rfl, ?_⟩; have HO164 := Aside0.mk (Kd.R_mono (ok' := fun k_ => k_ ≠ gb158) ho0 (fun k_ hk_ => Or.elim hk_ (fun hs_ => fun e_ => (Kd.R_away HO161.out (fun _ hk => hk)) (by rw [← e_]; exact hs_)) (fun hn_ => (Kd.freshB (blkW_ BK158) k_ hn_)))); replace BK158 := Aside0.mk (blk_kept (blkW_ BK158) hkp (fun hs_ => (fun e_ => (Kd.R_away HO161.out (fun _ hk => hk)) e_) hs_)); replace HB := Aside0.mk (hb); clear HO161; (try clear hb); (try clear hkp); (try clear ho0)))
            go_roundg k3
            case measure => have := HJ5.out; have := HJ11.out; have := HK3.out; omega
            case rel => exact ⟨(t162), (wrap64 (x49_3 + 1)), ok_, H', ⟨by have := HJ5.out; have := HJ11.out; have := HK3.out; omega⟩, ⟨RW_ <| Kd.R_mono HO164.out (fun _ hk => trivial)⟩, ⟨belW_ HB⟩⟩
           ·rw [if_neg c21] at H
            exact absurd H (by simp)
          ·rw [if_neg c20] at H
           exact absurd H (by simp)
         ·rw [if_neg c19] at H
          have c19b0 := decide_eq_false c19
          clear c19
          replace H := Option.bind_eq_some_iff.mp H
          obtain ⟨⟨t165, t168⟩, A350, H⟩ := H
          try dsimp only at H
          have A35 := Aside0.mk A350
          clear A350
          simp only [Option.some.injEq, Prod.mk.injEq] at H
          obtain ⟨rfl, rfl⟩ := H
          obtain ⟨Ao36, co36, eo36⟩ := Kd.R_slice HO_11.out
          subst eo36
          go_wp2_with (((with_reducible refine gate_callee (f := 93) rfl ?_); refine goS_ 75 rfl Tryd.func93 #[.slice Ao36 x11_3.length co36] ?_; (with_reducible refine (span_bounded.calls (fun k_ => some k_ = (.slice Ao36 x11_3.length co36 : Value).ownBlock) (.slice Ao36 x11_3.length co36) x11_3 t165 t168 w _ ?side1 ?side2 A35.out).mono ?_); (case side1 => repeat (first | (with_reducible first | exact HB.out | apply below_alloc | apply pw_below_drewN | apply below_drew1) | exact HB.out)); (case side2 => exact Kd.R_tight rfl HO_11.out); rintro e w37 ⟨v166, rfl, ho0, hb, hkp⟩; refine ⟨_, rfl, ?_⟩; have HO167 := Aside0.mk (Kd.R_mono (ok' := fun k_ => True) ho0 (fun k_ hk_ => trivial)); replace HB := Aside0.mk (hb); clear HO_11; (try clear hb); (try clear hkp); (try clear ho0)))
          go_ret2
          exact ⟨_, rs_, RW_ <| HO167.out, belW_ HB⟩
 ·rw [if_neg c5] at H
  have c5b0 := beq_eq_false_iff_ne.mpr c5
  have c5b1 := bne_iff_ne.mpr c5
  simp only [Option.some.injEq, Prod.mk.injEq] at H
  obtain ⟨rfl, rfl⟩ := H
  go_enter Tryd.func73, Tryd.ntmps73
  go_wp2_with (((with_reducible refine gate_callee (f := 90) rfl ?_); refine goS_ 16 rfl Tryd.func90 #[.slice A0 l0.length c0] ?_; (with_reducible refine (span_Check.calls k _ _ l0 t152 t153 _ ?side1 ?side2 A4.out).mono ?_); (case side1 => exact CW_ (HR0.out)); (case side2 => exact HC0.out); rintro e w38 ⟨rfl, hb⟩; refine ⟨_, rfl, ?_⟩; replace HB := belB_ HB hb; try clear hb))
  go_ret2
  exact ⟨_, rs_, nl_, belW_ HB⟩

end Go.Proofs.YtloccjkcmlkifaaDoor.PAll
