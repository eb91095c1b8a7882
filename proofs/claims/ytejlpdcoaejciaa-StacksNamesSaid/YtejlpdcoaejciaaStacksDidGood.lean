/- The stacks' Did of a new id, by its contract. -/
import Derived.Test.YtejlpdcoaejciaaStacksDid
namespace Go.Proofs.Ytejlpdcoaejciaa
open Go.RowKit

theorem own_base {w : World} {base : Nat} {e : TypeId} {size n : Nat} {v : Value} {xs : List Value} (h : w.ownsRow base e size v n xs) (k : Nat) (hk : v.ownBlock = some k) : base ≤ k := by
  rcases h.2 with ⟨rfl, _⟩ | ⟨g, cap, cur, rfl, hg, _⟩
  · simp [Value.ownBlock] at hk
  · simp [Value.ownBlock] at hk; omega

set_option maxHeartbeats 3200000 in
set_option maxRecDepth 100000 in
theorem did_good (x y : Int) (g base B : Nat) (hB : B ≤ base) (hBg : B ≤ g) (u r : List (Int × Int)) (w : World) (hs : StacksAt w base g u r) (hbase : base ≤ w.heap.size)
    (h : 1 ≤ x ∧ x ≤ 8 ∧ 1 ≤ y ∧ y ≤ 1024) (hn : u.length * 16 ≤ 1000000000) (hn2 : r.length * 16 ≤ 1000000000) (hmu : (x, y) ∉ u) (hmr : (x, y) ∉ r) :
    Calls Try.prog 32 #[.pointer (some ⟨g, 0, none⟩), .agg #[.int .i64 x, .int .i64 y]] w fun e w' => e = .returned (.int .i64 0) ∧ StacksAt w' base g (u ++ [(x, y)]) [] ∧ Below B w w' := by
  obtain ⟨su, sr, hg, hu, hr, hne⟩ := hs
  obtain ⟨x1, x2, y1, y2⟩ := h
  obtain ⟨A1, c1, e1, hi1⟩ := own_ids hu
  obtain ⟨A2, c2, e2, hi2⟩ := own_ids hr
  have hlt : g < w.heap.size := (Array.getElem?_eq_some_iff.1 hg).1
  have c0 : w.cell? ⟨g, 0, none⟩ = some (.slice A1 u.length c1) := by rw [cell_of_row w g _ _ _ (0, 0) hg, e1]; rfl
  have c1' : w.cell? ⟨g, 1, none⟩ = some (.slice A2 r.length c2) := by rw [cell_of_row w g _ _ _ (0, 0) hg, e2]; rfl
  have HC := Lib.hid (fun (w' : World) (hb : Below w.heap.size w w') => contains_id A1 c1 u x y w' (hi1.below hb) (by omega))
  have HD := Lib.hid (fun (w' : World) (hb : Below w.heap.size w w') => contains_id A2 c2 r x y w' (hi2.below hb) (by omega))
  have hL := @Later.cell (w.alloc (.cells #[.int .i64 x, .int .i64 y] 67))
  have hlt1 : g < w.heap.size + 1 := by omega
  have HG := Lib.hid hg
  have HU := Lib.hid hu
  have E1 := Lib.hid e1
  clear hg hi1 hi2 hu hr e1 e2 hne
  rw [decide_eq_false hmu] at HC
  rw [decide_eq_false hmr] at HD
  clear hmu hmr
  go_enter Try.func32, Try.ntmps32
  go_wp2
  refine wp_region_later (by kernel_rfl) (by kernel_rfl) ?_
  repeat (go_big_quiet_step ((go_at_call 51; first | exact Calls.later (HC.out _ (((Below.refl _ _).alloc (Nat.le_refl _) _).trans ((Subtype.property _ : Below _ _ _).mono (by simp)))) | exact Calls.later (HD.out _ (((Below.refl _ _).alloc (Nat.le_refl _) _).trans ((Subtype.property _ : Below _ _ _).mono (by simp)))))))
  refine wpQuiet_nil ?_
  rintro w1 ⟨⟨_, hb1⟩, rfl⟩
  have hb : Below w.heap.size w w1 := ((Below.refl _ _).alloc (Nat.le_refl _) _).trans (hb1.mono (by simp))
  have hz := hb1.size
  rw [World.size_alloc] at hz
  have d0 := (hb.cell (p := ⟨g, 0, none⟩) hlt).trans c0
  have d1 := (hb.cell (p := ⟨g, 1, none⟩) hlt).trans c1'
  have k0 : w1.cell? ⟨w.heap.size, 0, none⟩ = some (.int .i64 x) := (hb1.cell (p := ⟨w.heap.size, 0, none⟩) (by simp)).trans (by simp)
  have k1 : w1.cell? ⟨w.heap.size, 1, none⟩ = some (.int .i64 y) := (hb1.cell (p := ⟨w.heap.size, 1, none⟩) (by simp)).trans (by simp)
  have hg1 : w1.heap[g]? = some (.cells #[su, sr] 100 (0, 0)) := (hb.block g hlt).trans HG.out
  have f0 : w1.frozen? ⟨g, 0, none⟩ = false := by simp [World.frozen?, hg1]
  have f1 : w1.frozen? ⟨g, 1, none⟩ = false := by simp [World.frozen?, hg1]
  have hown := pw_own_below' HU.out hb
  have hgb : su.ownBlock ≠ some g := by
    rcases hown.2 with ⟨h, _⟩ | ⟨g', cap, cur, hv, hg', hh, _⟩
    · rw [h]; simp [Value.ownBlock]
    · rw [hv]
      intro he
      have : g' = g := by simpa [Value.ownBlock] using he
      subst this
      rw [hh] at hg1
      simp at hg1
  have hbb : su.ownBlock ≠ some w.heap.size := by
    rcases HU.out.2 with ⟨h, _⟩ | ⟨g', cap, cur, hv, hg', hh, _⟩
    · rw [h]; simp [Value.ownBlock]
    · rw [hv]
      intro he
      have : g' = w.heap.size := by simpa [Value.ownBlock] using he
      have := (Array.getElem?_eq_some_iff.1 hh).1
      omega
  rw [E1.out] at hown hgb hbb
  have hinfo : (Try.prog.info? 67).map (fun i => (i.zero, i.size, i.bytes)) = some (some (.agg #[.int .i64 0, .int .i64 0]), 2, 16) := by kernel_rfl
  obtain ⟨i0, hi0, hz0, hz1, hz2⟩ := info_parts hinfo
  have HO := Lib.hid hown
  have G1 := Lib.hid hg1
  have hgw : g < w1.heap.size := by omega
  have hbw : w.heap.size < w1.heap.size := by omega
  clear hL c0 c1' hb1 hg1 hown hinfo
  go_wp2
  go_region_law ((refine step_append_lies _ (by rfl) _ _ _ (by rfl) base 67 i0 _ 2 16 Try.underlying65 hi0 hz0 hz1 hz2 rfl (by omega) (.slice A1 u.length c1) u.length (flat u) (by rfl) ((HO.out.alloc _).drew) ⟨w1.heap.size, 0, none⟩ 1 1 [.int .i64 x, .int .i64 y] (by rfl) (by rfl) (World.news_of_block (cs := #[.int .i64 x, .int .i64 y]) (t := 67) (fr := (0, 0)) (heap_alloc_new w1 _)) (by simp [Value.oneCell']) (by omega) (by unfold maxLen; omega) (by omega) (by simp; omega) (w1.heap.size + 1) (by simp) ?_; intro gg cap w2 hown2 hgrow hat hltg; have q0 : w2.cell? ⟨g, 0, none⟩ = some (.slice A1 u.length c1) := (hgrow.cell_far ⟨g, 0, none⟩ (by simp; omega) (Ne.symm hgb)).trans (by rw [World.cell?_drew, World.cell?_alloc_past _ _ _ hgw]; exact d0); have q1 : w2.frozen? ⟨g, 0, none⟩ = false := (hgrow.frozen_far ⟨g, 0, none⟩ (by simp; omega) (Ne.symm hgb)).trans (by rw [World.frozen?_drew, World.frozen?_alloc_past _ _ _ hgw]; exact f0); have q2 : w2.cell? ⟨g, 1, none⟩ = some (.slice A2 r.length c2) := (hgrow.cell_far ⟨g, 1, none⟩ (by simp; omega) (Ne.symm hgb)).trans (by rw [World.cell?_drew, World.cell?_alloc_past _ _ _ hgw]; exact d1); have q3 : w2.frozen? ⟨g, 1, none⟩ = false := (hgrow.frozen_far ⟨g, 1, none⟩ (by simp; omega) (Ne.symm hgb)).trans (by rw [World.frozen?_drew, World.frozen?_alloc_past _ _ _ hgw]; exact f1)))
  all_goals
    have hgg : gg ≠ g := by
      rcases hat with h | h
      · intro e; rw [e] at h; exact hgb h
      · omega
    have H2 := Lib.hid (((hgrow.block g (by simp; omega) (Ne.symm hgb)).trans (Below.heap_alloc w1 _ g hgw)).trans G1.out)
    have HO2 := Lib.hid hown2
    have HB2 := Lib.hid ((((hb.mono (by omega : B ≤ w.heap.size)).alloc (by omega) (.cells #[.int .i64 x, .int .i64 y] 67)).drew).grown hgrow (by simp; omega) (fun k hk => Nat.le_trans hB (own_base HO.out k hk)))
    clear hown2 hgrow hat
    go_wp2
    go_ret
    refine ⟨rfl, stacks_put H2.out HO2.out hgg, (HB2.out.setCell (by exact hBg) _).setCell (by exact hBg) _⟩
end Go.Proofs.Ytejlpdcoaejciaa
