/- StacksPick: the walk. -/
import Derived.Test.YtejlpdcoaejciaaStacksPick
namespace Go.Proofs.Ytejlpdcoaejciaa
open Go.ChangeShapes Go.WideShapes Go.ChangeAt Go.RowKit
attribute [local go_sem] Try.eqID Try.fnNil Try.nilNil

theorem last_yes (p : Nat → Prop) [DecidablePred p] (n : Nat) (h : ∃ i, i < n ∧ p i) : ∃ m, m < n ∧ p m ∧ ∀ j, m < j → j < n → ¬ p j := by
  induction n with
  | zero => obtain ⟨i, hi, _⟩ := h; omega
  | succ n ih =>
    by_cases hn : p n
    · exact ⟨n, by omega, hn, fun j h1 h2 => by omega⟩
    · obtain ⟨i, hi, hp⟩ := h
      obtain ⟨m, h1, h2, h3⟩ := ih ⟨i, by rcases Nat.lt_succ_iff_lt_or_eq.1 hi with h | h; exact h; (subst h; exact absurd hp hn), hp⟩
      refine ⟨m, by omega, h2, fun j g1 g2 => ?_⟩
      rcases Nat.lt_succ_iff_lt_or_eq.1 g2 with h | h
      · exact h3 j g1 h
      · subst h; exact hn
theorem flat_getD (l : List (Int × Int)) (k : Nat) (h : k < l.length) : (flat l)[k * 2]? = some (.int .i64 (l.getD k (0, 0)).1) ∧ (flat l)[k * 2 + 1]? = some (.int .i64 (l.getD k (0, 0)).2) := by
  induction l generalizing k with
  | nil => simp at h
  | cons p l ih =>
    cases k with
    | zero => exact ⟨rfl, rfl⟩
    | succ k =>
      have := ih k (by simpa using h)
      rw [show flat (p :: l) = .int .i64 p.1 :: .int .i64 p.2 :: flat l from rfl, show (k + 1) * 2 = k * 2 + 1 + 1 by omega]
      simpa using this
theorem flat_len (l : List (Int × Int)) : (flat l).length = l.length * 2 := by
  induction l with
  | nil => rfl
  | cons p l ih => rw [show flat (p :: l) = .int .i64 p.1 :: .int .i64 p.2 :: flat l from rfl]; simp [ih]; omega
theorem flat_one' (l : List (Int × Int)) : ∀ u ∈ flat l, u.oneCell' = true := by
  intro u hu
  obtain ⟨p, _, hp⟩ := List.mem_flatMap.1 hu
  simp at hp
  rcases hp with rfl | rfl <;> rfl
theorem ids_own {w : World} {base : Nat} {e : TypeId} {v : Value} {n : Nat} {l : List (Int × Int)} (h : w.ownsRow base e 2 v n (flat l)) : n = l.length ∧ ∃ A c, v = .slice A l.length c ∧ IdsAt w A l ∧ (A = none → c = 0) ∧ l.length ≤ c ∧ c ≤ 9223372036854775807 := by
  have hn : n = l.length := by have := h.1; rw [flat_len] at this; omega
  subst hn
  refine ⟨rfl, ?_⟩
  rcases h.2 with ⟨rfl, hn⟩ | ⟨g, cap, cur, rfl, hg, hh, hnc, hcm, hsz, ht⟩
  · exact ⟨none, 0, by rw [hn], fun k hk => by omega, fun _ => rfl, by omega, by omega⟩
  · refine ⟨some ⟨g, 0, none⟩, cap, rfl, fun k hk => ⟨g, 0, rfl, (Array.getElem?_eq_some_iff.1 hh).1, ?_, ?_⟩, (fun h => by cases h), hnc, by simpa [maxLen] using hcm⟩
    · have h1 := (flat_getD l k hk).1
      rw [← ht, List.getElem?_take, if_pos (by omega)] at h1
      rw [cell_of_row w g _ cur e (0, 0) hh]
      simpa using h1
    · have h1 := (flat_getD l k hk).2
      rw [← ht, List.getElem?_take, if_pos (by omega)] at h1
      rw [cell_of_row w g _ cur e (0, 0) hh]
      simpa using h1
theorem ids_news {w : World} {A : Option Addr} {l : List (Int × Int)} (h : IdsAt w A l) : ∀ ad, A = some ad → ∀ j u, (flat l)[j]? = some u → w.cell? (ad.add j) = some u := by
  intro ad hA j u hu
  have hj : j < (flat l).length := (List.getElem?_eq_some_iff.1 hu).1
  rw [flat_len] at hj
  obtain ⟨b, o, hA', _, h1, h2⟩ := h (j / 2) (by omega)
  rw [hA] at hA'
  cases hA'
  have hadd : (⟨b, o, none⟩ : Addr).add j = ⟨b, o + j, none⟩ := by unfold Addr.add; split <;> simp_all
  obtain ⟨f1, f2⟩ := flat_getD l (j / 2) (by omega)
  rw [hadd]
  rcases Nat.mod_two_eq_zero_or_one j with hp | hp
  · rw [show j / 2 * 2 = j by omega] at h1 f1
    rw [h1, ← f1, hu]
  · rw [show o + j / 2 * 2 + 1 = o + j by omega] at h2
    rw [show j / 2 * 2 + 1 = j by omega] at f2
    rw [h2, ← f2, hu]

theorem IdsAt.left {w : World} {A : Option Addr} {l m : List (Int × Int)} (h : IdsAt w A (l ++ m)) : IdsAt w A l := by
  intro k hk
  obtain ⟨b, o, h1, h2, h3, h4⟩ := h k (by rw [List.length_append]; omega)
  rw [List.getD_eq_getElem?_getD, List.getElem?_append_left hk, ← List.getD_eq_getElem?_getD] at h3 h4
  exact ⟨b, o, h1, h2, h3, h4⟩
theorem rev_getD {F : List (Int × Int)} {m i : Nat} (hm : m < F.length) (hi : i < F.length - m) : (F.drop m).reverse.getD i (0, 0) = F.getD (F.length - 1 - i) (0, 0) := by
  rw [List.getD_eq_getElem?_getD, List.getD_eq_getElem?_getD, List.getElem?_reverse (by rw [List.length_drop]; omega), List.getElem?_drop, List.length_drop]
  congr 2
  omega

set_option maxHeartbeats 1600000 in
set_option maxRecDepth 100000 in
theorem spick_walk (A : Option Addr) (c : Nat) (L : List (Int × Int)) (rest by' : Int) (w : World) (hl : IdsAt w A L) (hA : A = none → c = 0) (hlc : L.length ≤ c) (hc : c * 16 ≤ 140737488351232) :
    Calls Try.prog 9 #[.slice A L.length c, .int .i64 rest, .int .i64 by'] w (Lawful w) := by
  have HL := Lib.hid hl
  have HA := Lib.hid hA
  have HI := Lib.hid Try.idinfo'
  obtain ⟨B, hB⟩ : ∃ B : Nat, (B : Int) = by' % 6 := ⟨(by' % 6).toNat, by omega⟩
  have hB6 : B < 6 := by omega
  obtain ⟨R, hR⟩ : ∃ R : Nat, (R : Int) = rest % (1 + (B : Int)) := ⟨(rest % (1 + (B : Int))).toNat, by have := Int.emod_nonneg rest (show 1 + (B : Int) ≠ 0 by omega); omega⟩
  have hRB : R < 1 + B := by have := Int.emod_lt_of_pos rest (show (0 : Int) < 1 + (B : Int) by omega); omega
  have HB := Lib.hid hB
  have HR := Lib.hid hR
  clear hl hA hB hR
  go_enter Try.func9, Try.ntmps9
  go_wp2_with (fail)
  refine (pick07_any by' 6 _ (by omega) (by omega)).mono ?_
  rintro e w1 ⟨rfl, rfl⟩
  rw [← HB.out]
  go_wp2_with (fail)
  refine (pick07_any rest (1 + (B : Int)) _ (by omega) (by omega)).mono ?_
  rintro e w2 ⟨rfl, rfl⟩
  rw [← HR.out]
  go_wp2_with (at_builtin; refine Hid.out ?_)
  refine Lib.hid ?_
  obtain ⟨w3, hw3⟩ : ∃ w3, w3 = (w.alloc (.cells #[.int .i64 (R : Int)] 3)).alloc (.cells #[.int .i64 (1 + (B : Int))] 3) := ⟨_, rfl⟩
  have hs3 : w3.heap.size = w.heap.size + 2 := by rw [hw3]; simp
  have B3 : Below w.heap.size w w3 := by rw [hw3]; exact ((Below.refl _ _).alloc (Nat.le_refl _) _).alloc (by simp) _
  have gR : w3.heap[w.heap.size]? = some (.cells #[.int .i64 (R : Int)] 3 (0, 0)) := by
    rw [hw3, Below.heap_alloc _ _ _ (by simp)]; exact heap_alloc_new w _
  have gB : w3.heap[w.heap.size + 1]? = some (.cells #[.int .i64 (1 + (B : Int))] 3 (0, 0)) := by
    rw [hw3]
    have := heap_alloc_new (w.alloc (.cells #[.int .i64 (R : Int)] 3)) (.cells #[.int .i64 (1 + (B : Int))] 3)
    rwa [World.size_alloc] at this
  rw [← hw3]
  have HW3 := Lib.hid hw3
  clear hw3
  refine wpList_append_at _ rfl _ _ 65 rfl (w.heap.size + 2) 67 _ 2 16 Try.underlying65 HI.out rfl (by omega) (.slice none 0 0) 0 [] rfl ⟨rfl, .inl ⟨rfl, rfl⟩⟩ ⟨w.heap.size + 1 + 1, 0, none⟩ 2 2 [.int .i64 1, .int .i64 (R : Int), .int .i64 2, .int .i64 ((R : Int) + 1)] rfl rfl (World.news_of_block (cs := #[.int .i64 1, .int .i64 (R : Int), .int .i64 2, .int .i64 ((R : Int) + 1)]) (t := 67) (fr := (0, 0)) (by have := heap_alloc_new w3 (.cells #[.int .i64 1, .int .i64 (R : Int), .int .i64 2, .int .i64 ((R : Int) + 1)] 67); rwa [hs3] at this)) (by simp [Value.oneCell']) (by unfold maxLen; omega) (by omega) (by simp; omega) ?_
  intro v5 w5 hown5 hgrow5 _
  obtain ⟨H, hH⟩ : ∃ H : List (Int × Int), H = [(1, (R : Int)), (2, (R : Int) + 1)] := ⟨_, rfl⟩
  have hHf : ([] : List Value) ++ [.int .i64 1, .int .i64 (R : Int), .int .i64 2, .int .i64 ((R : Int) + 1)] = flat H := by rw [hH]; rfl
  have hHl : 2 = H.length := by rw [hH]; rfl
  rw [hHf, show 0 + 2 = 2 from rfl] at hown5
  have B5 : Below (w.heap.size + 2) w3 w5 := ((Below.refl _ _).alloc (by omega) _).grown hgrow5 (by simp; omega) (fun k hk => by simp [Value.ownBlock] at hk)
  have O5 := Lib.hid hown5
  have HB5 := Lib.hid B5
  have HH := Lib.hid hH
  have HHL := Lib.hid hHl
  have HB3 := Lib.hid B3
  have GR := Lib.hid gR
  have GB := Lib.hid gB
  have HS3 := Lib.hid hs3
  obtain ⟨n0, hn0⟩ : ∃ n0, n0 = L.length := ⟨_, rfl⟩
  have HN0 := Lib.hid hn0
  clear hown5 hgrow5 hH hHf hHl B5 B3 gR gB hs3
  rw [← hn0]
  rw [← hn0] at hlc
  clear hn0
  have hL5 : IdsAt w5 A L := HL.out.below (HB3.out.trans (HB5.out.mono (by omega)))
  have HL5 := Lib.hid hL5
  clear hL5
  go_wp2_with (at_builtin; refine Hid.out ?_)
  refine Lib.hid ?_
  refine wpList_append_src _ rfl _ _ 65 rfl (w.heap.size + 2) 67 _ 2 16 Try.underlying65 HI.out rfl (by omega) v5 2 (flat H) rfl O5.out A n0 c (flat L) rfl (by rw [flat_len, ← HN0.out]) (fun h => by have := HA.out h; omega) (ids_news HL5.out) (flat_one' L) (by unfold maxLen; omega) (by omega) (by have := HS3.out; have := HB5.out.size; omega) ?_
  intro v6 w6 hown6 hgrow6 _
  obtain ⟨F, hF⟩ : ∃ F, F = H ++ L := ⟨_, rfl⟩
  have hFl : F.length = 2 + n0 := by rw [hF, List.length_append, ← HHL.out, ← HN0.out]
  rw [← flat_append, ← hF, ← hFl] at hown6
  have B6 : Below (w.heap.size + 2) w3 w6 := HB5.out.grown hgrow6 (by have := HS3.out; have := HB5.out.size; omega) (fun k hk => (O5.out.lt k hk).1)
  obtain ⟨_, A6, c6, rfl, _, _, _, _⟩ := ids_own hown6
  obtain ⟨n, hn⟩ : ∃ n, n = F.length := ⟨_, rfl⟩
  have HN := Lib.hid hn
  rw [← hn] at hown6 hFl ⊢
  have O6 := Lib.hid hown6
  have HB6 := Lib.hid B6
  have HF := Lib.hid hF
  have hnl1 : 2 + n0 ≤ n := by omega
  have hnl2 : n ≤ 2 + n0 := by omega
  clear hown6 hgrow6 hF B6 hn hFl
  go_wp2_with (at_builtin; refine Hid.out ?_)
  refine Lib.hid ?_
  refine wpList_append_at _ rfl _ _ 65 rfl (w.heap.size + 2) 67 _ 2 16 Try.underlying65 HI.out rfl (by omega) _ n (flat F) rfl (O6.out.alloc _) ⟨w6.heap.size, 0, none⟩ 1 1 [.int .i64 (-7), .int .i64 (-7)] rfl rfl (World.news_of_block (cs := #[.int .i64 (-7), .int .i64 (-7)]) (t := 67) (fr := (0, 0)) (heap_alloc_new w6 _)) (by simp [Value.oneCell']) (by unfold maxLen; omega) (by omega) (by have := HS3.out; have := HB6.out.size; simp; omega) ?_
  intro v7 w7 hown7 hgrow7 _
  obtain ⟨E, hE⟩ : ∃ E, E = F ++ [((-7 : Int), (-7 : Int))] := ⟨_, rfl⟩
  rw [show flat F ++ [.int .i64 (-7), .int .i64 (-7)] = flat E by rw [hE, flat_append, flat_one]] at hown7
  have B7 : Below (w.heap.size + 2) w3 w7 := (HB6.out.alloc (by have := HS3.out; have := HB6.out.size; omega) _).grown hgrow7 (by have := HS3.out; have := HB6.out.size; simp; omega) (fun k hk => (O6.out.lt k hk).1)
  obtain ⟨hE1, A7, c7, rfl, hids7, _, hc7, hc763⟩ := ids_own hown7
  obtain ⟨g7, hg7⟩ : ∃ g7, A7 = some ⟨g7, 0, none⟩ := by
    obtain ⟨b, o, h1, _⟩ := hids7 0 (by omega)
    rcases hown7.2 with ⟨h, _⟩ | ⟨g, cap, cur, h, _⟩
    · simp only [Value.slice.injEq] at h; rw [h.1] at h1; cases h1
    · simp only [Value.slice.injEq] at h; exact ⟨g, h.1⟩
  subst hg7
  rw [← hE1] at hc7 ⊢
  have HIDS := Lib.hid hids7
  have HE := Lib.hid hE
  have HE1 := Lib.hid hE1
  have HB7 := Lib.hid B7
  clear hown7 hgrow7 hE hE1 hids7 B7
  have hnc : (n : Int) ≤ (c7 : Int) := by omega
  have hs7 : w.heap.size + 2 ≤ w7.heap.size := by have := HS3.out; have := HB7.out.size; omega
  have ha8 : w7.heap.size < (w7.alloc (.cells #[.slice none 0 0] 65)).heap.size := by simp
  have B8 : Below w7.heap.size w7 (w7.alloc (.cells #[.slice none 0 0] 65)) := (Below.refl _ _).alloc (Nat.le_refl _) _
  have hg7l : g7 < w7.heap.size := by
    obtain ⟨b, o, h1, h2, _⟩ := HIDS.out 0 (by rw [← HE1.out]; omega)
    cases h1
    exact h2
  have cR7 : w7.cell? ⟨w.heap.size, 0, none⟩ = some (.int .i64 (R : Int)) := by
    rw [cell_of_row w7 w.heap.size _ _ _ (0, 0) ((HB7.out.block _ (by omega)).trans GR.out)]; rfl
  have cB7 : w7.cell? ⟨w.heap.size + 1, 0, none⟩ = some (.int .i64 (1 + (B : Int))) := by
    rw [cell_of_row w7 (w.heap.size + 1) _ _ _ (0, 0) ((HB7.out.block _ (by omega)).trans GB.out)]; rfl
  have cR8 := (B8.cell (p := ⟨w.heap.size, 0, none⟩) (by simp; omega)).trans cR7
  have cB8 := (B8.cell (p := ⟨w.heap.size + 1, 0, none⟩) (by simp; omega)).trans cB7
  have hF0 : F.getD 0 (0, 0) = (1, (R : Int)) := by rw [HF.out, HH.out]; rfl
  have hids7F : IdsAt w7 (some ⟨g7, 0, none⟩) F := by
    have := HIDS.out
    rw [HE.out] at this
    exact this.left
  obtain ⟨m, hmn, hyes, hnot⟩ := last_yes (fun i => (F.getD i (0, 0)).2 % (1 + (B : Int)) = (R : Int)) F.length ⟨0, by rw [← HN.out]; omega, by
    show (F.getD 0 (0, 0)).2 % (1 + (B : Int)) = (R : Int)
    rw [hF0]
    exact Int.emod_eq_of_lt (by omega) (by omega)⟩
  have HPF := Lib.hid (pick_found w7.heap.size (w.heap.size + 1) w.heap.size (some ⟨g7, 0, none⟩) c7 F (1 + (B : Int)) (R : Int) (.slice none 0 0) (w7.alloc (.cells #[.slice none 0 0] 65)) (hids7F.below B8) (fun b o h _ => by cases h; exact hg7l) ⟨heap_alloc_new w7 _, rfl, .inl ⟨rfl, rfl⟩⟩
    (by omega) (by omega) cB8 cR8 (by omega) (by omega) (by rw [← HN.out]; omega) m hmn hyes hnot)
  rw [← HN.out] at HPF hmn
  have HYES := Lib.hid hyes
  have HNOT := Lib.hid hnot
  have HF0 := Lib.hid hF0
  have HIF := Lib.hid hids7F
  have HB8 := Lib.hid B8
  have CR7 := Lib.hid cR7
  have CB7 := Lib.hid cB7
  clear hyes hnot hF0 hids7F B8 cR7 cB7 cR8 cB8
  go_wp2_with (fail)
  refine HPF.out.mono ?_
  rintro e w9 ⟨rfl, v9, hask, hb9⟩
  obtain ⟨hq1, A9, c9, rfl, hids9, _, _, _⟩ := ids_own hask.2
  have ca9 : w9.cell? ⟨w7.heap.size, 0, none⟩ = some (.slice A9 (F.drop m).reverse.length c9) := by rw [cell_of_row w9 w7.heap.size _ _ _ (0, 0) hask.1]; rfl
  obtain ⟨⟨x, y⟩, hxy⟩ : ∃ p, p = F.getD m (0, 0) := ⟨_, rfl⟩
  rw [← hxy]
  have B79 : Below w7.heap.size w7 w9 := HB8.out.trans hb9
  have hw9 : w7.heap.size < w9.heap.size := (Array.getElem?_eq_some_iff.1 hask.1).1
  obtain ⟨w10, hw10⟩ : ∃ w10, w10 = w9.alloc (.cells #[.int .i64 x, .int .i64 y] 67) := ⟨_, rfl⟩
  have B10 : Below w9.heap.size w9 w10 := by rw [hw10]; exact (Below.refl _ _).alloc (Nat.le_refl _) _
  have hgx : w10.heap[w9.heap.size]? = some (.cells #[.int .i64 x, .int .i64 y] 67 (0, 0)) := by rw [hw10]; exact heap_alloc_new w9 _
  have B710 := B79.trans (B10.mono (by omega))
  obtain ⟨q, hq⟩ : ∃ q, q = (F.drop m).reverse.length := ⟨_, rfl⟩
  have hqn : q = n - m := by rw [hq, List.length_reverse, List.length_drop, ← HN.out]
  have hqi : ((q : Int) != (n : Int) - (m : Int)) = false := by rw [bne_eq_false_iff_eq]; omega
  rw [← hq] at ca9
  have ca10 := (B10.cell (p := ⟨w7.heap.size, 0, none⟩) hw9).trans ca9
  have x10 : w10.cell? ⟨w9.heap.size, 0, none⟩ = some (.int .i64 x) := by rw [cell_of_row w10 w9.heap.size _ _ _ (0, 0) hgx]; rfl
  have y10 : w10.cell? ⟨w9.heap.size, 1, none⟩ = some (.int .i64 y) := by rw [cell_of_row w10 w9.heap.size _ _ _ (0, 0) hgx]; rfl
  have cR10 := (B710.cell (p := ⟨w.heap.size, 0, none⟩) (by simp; omega)).trans CR7.out
  have cB10 := (B710.cell (p := ⟨w.heap.size + 1, 0, none⟩) (by simp; omega)).trans CB7.out
  have hidsF := HIF.out.below B710
  have hidsG := hids9.below B10
  obtain ⟨_, _, hge, _, m0, m1⟩ := hidsF m (by rw [← HN.out]; exact hmn)
  cases hge
  rw [← hxy] at m0 m1
  have hyr : y % (1 + (B : Int)) = (R : Int) := by have := HYES.out; rw [← hxy] at this; exact this
  have hmi : (m : Int) < (n : Int) := by omega
  have hmi2 : decide (n ≤ m) = false := decide_eq_false (by omega)
  have hm0 : decide ((m : Int) < 0) = false := decide_eq_false (by omega)
  have hm0' : (0 : Int) ≤ (m : Int) := by omega
  have HYR := Lib.hid hyr
  have HQN := Lib.hid hqn
  have HXY := Lib.hid hxy
  have HIDF := Lib.hid hidsF
  have HIDG := Lib.hid hidsG
  have HB710 := Lib.hid B710
  have HW10 := Lib.hid hw10
  have hgx' := Lib.hid hgx
  clear hyr hqn hxy hidsF hidsG B710 hw10 hgx hask hb9 hids9 ca9 B79 B10 hq1 hq
  rw [Nat.zero_add] at m0 m1
  have hyn : ((y % (1 + (B : Int))) != (R : Int)) = false := by rw [HYR.out]; simp
  go_wp2
  rw [← HW10.out]
  go_quiet ((go_at_call 27; exact Calls.quiet_of_same (pick07_any _ _ _ (by omega) (by omega))))
  have HBQ := Lib.hid (Below.drewN' (Below.refl w10.heap.size w10) nq)
  generalize w10.drewN nq = w11 at HBQ ⊢
  clear m0 m1 hyn x10 y10 hqi hmi2 hm0
  have HCA := Lib.hid ca10
  have HCR := Lib.hid cR10
  have HCB := Lib.hid cB10
  clear ca10 cR10 cB10
  have ca11 := (HBQ.out.cell (p := ⟨w7.heap.size, 0, none⟩) (World.block_lt_of_cell? _ _ HCA.out)).trans HCA.out
  have hqm : q ≤ n := by have := HQN.out; omega
  go_wp2
  go_loopw [13] (fun i' wr => ∃ i : Nat, i ≤ q ∧ i' = .int .i64 (i : Int) ∧ Below w10.heap.size w10 wr) (fun i' _ => q - (intOf i').toNat)
  case atStart => exact ⟨0, Nat.zero_le _, rfl, HBQ.out⟩
  case round =>
    obtain ⟨i, hi, rfl, hb⟩ := hrel
    have k1 := (hb.cell (p := ⟨w7.heap.size, 0, none⟩) (World.block_lt_of_cell? _ _ HCA.out)).trans HCA.out
    have k2 := (hb.cell (p := ⟨w.heap.size, 0, none⟩) (World.block_lt_of_cell? _ _ HCR.out)).trans HCR.out
    have k3 := (hb.cell (p := ⟨w.heap.size + 1, 0, none⟩) (World.block_lt_of_cell? _ _ HCB.out)).trans HCB.out
    have HBR := Lib.hid hb
    clear hb ca11
    by_cases hlt : i < q
    · have hlti : (i : Int) < (q : Int) := by omega
      have i0 : (0 : Int) ≤ (i : Int) := by omega
      obtain ⟨bg, og, hAg, hbg, a0, a1⟩ := HIDG.out i (by rw [List.length_reverse, List.length_drop, ← HN.out]; have := HQN.out; omega)
      subst hAg
      obtain ⟨_, _, hge, hg7', l0, l1⟩ := HIDF.out (n - 1 - i) (by rw [← HN.out]; have := HQN.out; omega)
      cases hge
      rw [rev_getD (by rw [← HN.out]; exact hmn) (by rw [← HN.out]; have := HQN.out; omega), ← HN.out] at a0 a1
      obtain ⟨⟨p1, p2⟩, hpp⟩ : ∃ p, p = F.getD (n - 1 - i) (0, 0) := ⟨_, rfl⟩
      rw [← hpp] at a0 a1 l0 l1
      have b0 := (HBR.out.cell (p := ⟨bg, og + i * 2, none⟩) hbg).trans a0
      have b1 := (HBR.out.cell (p := ⟨bg, og + i * 2 + 1, none⟩) hbg).trans a1
      rw [Nat.zero_add] at l0 l1
      have d0 := (HBR.out.cell (p := ⟨g7, (n - 1 - i) * 2, none⟩) hg7').trans l0
      have d1 := (HBR.out.cell (p := ⟨g7, (n - 1 - i) * 2 + 1, none⟩) hg7').trans l1
      have hsub : IntKind.i64.wrap (IntKind.i64.wrap ((n : Int) - 1) - (i : Int)) = ((n - 1 - i : Nat) : Int) := by rw [IntKind.wrap_i64, IntKind.wrap_i64]; have := HQN.out; omega
      obtain ⟨t, ht⟩ : ∃ t, t = n - 1 - i := ⟨_, rfl⟩
      have hti : (n : Int) - 1 - (i : Int) = (t : Int) := by have := HQN.out; omega
      have htn : (t : Int) < (n : Int) := by omega
      have ht0 : (0 : Int) ≤ (t : Int) := by omega
      rw [← ht] at d0 d1 hpp hsub
      have HPP := Lib.hid hpp
      have HTT := Lib.hid ht
      clear a0 a1 l0 l1 hpp ht hbg
      by_cases hl : i + 1 < q
      · have hli : (i : Int) < (q : Int) - 1 := by omega
        have hno : (p2 % (1 + (B : Int)) == (R : Int)) = false := by
          have := HNOT.out t (by have := HTT.out; have := HQN.out; omega) (by rw [← HN.out]; have := HTT.out; omega)
          rw [← HPP.out] at this
          rw [beq_eq_false_iff_ne]; exact this
        go_wp2
        go_quiet ((go_at_call 27; exact Calls.quiet_of_same (pick07_any _ _ _ (by omega) (by omega))))
        have HB2 := Lib.hid (Below.drewN' HBR.out nq)
        generalize wr.drewN nq = w12 at HB2 ⊢
        clear b0 b1 d0 d1 k1 k2 k3 hno
        go_wp2
        go_roundw
        case rel => exact ⟨i + 1, by omega, by go_num, HB2.out⟩
        case measure => simp [intOf]; omega
      · have hli : decide ((i : Int) < (q : Int) - 1) = false := decide_eq_false (by omega)
        go_wp2
        go_quiet ((go_at_call 27; exact Calls.quiet_of_same (pick07_any _ _ _ (by omega) (by omega))))
        have HB2 := Lib.hid (Below.drewN' HBR.out nq)
        generalize wr.drewN nq = w12 at HB2 ⊢
        clear b0 b1 d0 d1 k1 k2 k3
        go_wp2
        go_roundw
        case rel => exact ⟨i + 1, by omega, by go_num, HB2.out⟩
        case measure => simp [intOf]; omega
    · obtain rfl : i = q := by omega
      go_wp2
      go_loopw [14] (fun i' wr => ∃ i : Nat, i ≤ n0 ∧ i' = .int .i64 (i : Int) ∧ Below w10.heap.size w10 wr) (fun i' _ => n0 - (intOf i').toNat)
      case atStart => exact ⟨0, Nat.zero_le _, rfl, HBR.out⟩
      case round =>
        obtain ⟨j, hj, rfl, hb⟩ := hrel
        have HBR := Lib.hid hb
        clear hb k1 k2 k3
        by_cases hjl : j < n0
        · have hjli : (j : Int) < (n0 : Int) := by omega
          have j0 : (0 : Int) ≤ (j : Int) := by omega
          have hlL := HL.out j (by rw [← HN0.out]; exact hjl)
          obtain ⟨bl, ol, rfl, hbl, a0, a1⟩ := hlL
          obtain ⟨_, _, hge, hg7', l0, l1⟩ := HIDF.out (j + 2) (by rw [← HN.out]; omega)
          cases hge
          have hFj : F.getD (j + 2) (0, 0) = L.getD j (0, 0) := by
            rw [HF.out, HH.out]; rfl
          rw [hFj] at l0 l1
          obtain ⟨⟨p1, p2⟩, hpp⟩ : ∃ p, p = L.getD j (0, 0) := ⟨_, rfl⟩
          rw [← hpp] at a0 a1 l0 l1
          rw [Nat.zero_add] at l0 l1
          have hblw : bl < w7.heap.size := by have := HS3.out; have := HB7.out.size; omega
          have hw7l : Below w.heap.size w w7 := HB3.out.trans (HB7.out.mono (by omega))
          have hwl : Below w.heap.size w w10 := hw7l.trans (HB710.out.mono (by omega))
          have b0 := (HBR.out.cell (p := ⟨bl, ol + j * 2, none⟩) (by have := HB710.out.size; simp; omega)).trans ((hwl.cell (p := ⟨bl, ol + j * 2, none⟩) hbl).trans a0)
          have b1 := (HBR.out.cell (p := ⟨bl, ol + j * 2 + 1, none⟩) (by have := HB710.out.size; simp; omega)).trans ((hwl.cell (p := ⟨bl, ol + j * 2 + 1, none⟩) hbl).trans a1)
          have d0 := (HBR.out.cell (p := ⟨g7, (j + 2) * 2, none⟩) hg7').trans l0
          have d1 := (HBR.out.cell (p := ⟨g7, (j + 2) * 2 + 1, none⟩) hg7').trans l1
          have hj2 : (j : Int) + 2 < (n : Int) := by omega
          clear a0 a1 l0 l1 hpp hFj hw7l hwl hbl hblw
          go_wp2
          go_quiet (fail)
          have HB2 := Lib.hid (Below.drewN' HBR.out nq)
          generalize wr.drewN nq = w12 at HB2 ⊢
          clear b0 b1 d0 d1
          go_wp2
          go_roundw
          case rel => exact ⟨j + 1, by omega, by go_num, HB2.out⟩
          case measure => simp [intOf]; omega
        · obtain rfl : j = n0 := by omega
          have k2 := (HBR.out.cell (p := ⟨w.heap.size, 0, none⟩) (World.block_lt_of_cell? _ _ HCR.out)).trans HCR.out
          obtain ⟨_, _, hge, hg7', l0, l1⟩ := HIDF.out 0 (by rw [← HN.out]; omega)
          cases hge
          rw [HF0.out] at l0 l1
          have hE7 := HIDS.out.below HB710.out
          obtain ⟨_, _, hge, hg7'', e0, e1⟩ := hE7 n (by rw [← HE1.out]; omega)
          cases hge
          have hEn : E.getD n (0, 0) = (-7, -7) := by
            rw [HE.out, List.getD_eq_getElem?_getD, List.getElem?_append_right (by rw [← HN.out]; omega), ← HN.out, Nat.sub_self]; rfl
          rw [hEn] at e0 e1
          rw [Nat.zero_add] at l0 l1 e0 e1
          have d0 := (HBR.out.cell (p := ⟨g7, 0 * 2, none⟩) hg7').trans l0
          have d1 := (HBR.out.cell (p := ⟨g7, 0 * 2 + 1, none⟩) hg7').trans l1
          have f0 := (HBR.out.cell (p := ⟨g7, n * 2, none⟩) hg7'').trans e0
          have f1 := (HBR.out.cell (p := ⟨g7, n * 2 + 1, none⟩) hg7'').trans e1
          have hn1c : (n : Int) + 1 ≤ (c7 : Int) := by omega
          have hn0i : (0 : Int) < (n : Int) := by omega
          clear l0 l1 e0 e1 hEn hE7
          simp only [Nat.zero_mul, Nat.zero_add] at d0 d1
          go_wp2
          go_quiet (fail)
          have HB2 := Lib.hid (Below.drewN' HBR.out nq)
          generalize wr.drewN nq = w12 at HB2 ⊢
          clear d0 d1 f0 f1 k2
          go_wp2
          go_ret
          refine ⟨rfl, ?_⟩
          exact (HB3.out.trans (HB7.out.mono (by omega))).trans ((HB710.out.mono (by omega)).trans (HB2.out.mono (by have := HB710.out.size; omega)))
end Go.Proofs.Ytejlpdcoaejciaa
