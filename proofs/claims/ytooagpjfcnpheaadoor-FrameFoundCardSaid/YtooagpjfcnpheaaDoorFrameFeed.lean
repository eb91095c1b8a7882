/- NewSplitter, Held, Lost, Feed, by their contracts. -/
import Derived.Test.YtooagpjfcnpheaaDoorChg
import Derived.Test.YtooagpjfcnpheaaDoorFrameScan
import Derived.Deep.CutBlock
import Derived.Deep.DeepCutAuto
namespace Go.Proofs.YtooagpjfcnpheaaDoor
open Go.RowKit

/-- A splitter: what it holds, how much is lost. -/
def SplitAt (w : World) (base g : Nat) (hv : Value) (held : List UInt8) (lost : Nat) : Prop :=
  w.heap[g]? = some (.cells #[hv, .int .i64 (lost : Int)] 83 (0, 0)) ∧ base ≤ g ∧ w.ownsRow base 5 1 hv held.length (vals held)

theorem newSplitter_any (w : World) : Calls Tryd.prog 29 #[] w fun e w' => e = .returned (.pointer (some ⟨w.heap.size, 0, none⟩)) ∧ SplitAt w' w.heap.size w.heap.size (.slice none 0 0) [] 0 ∧ Below w.heap.size w w' := by
  go_enter Tryd.func29, Tryd.ntmps29
  go_wp2
  go_ret
  exact ⟨rfl, ⟨heap_alloc_new w _, Nat.le_refl _, ⟨rfl, .inl ⟨rfl, rfl⟩⟩⟩, (Below.refl _ _).alloc (Nat.le_refl _) _⟩

theorem SplitAt.c0 {w : World} {base g : Nat} {hv : Value} {held : List UInt8} {lost : Nat} (h : SplitAt w base g hv held lost) : w.cell? ⟨g, 0, none⟩ = some hv := by
  rw [cell_of_row w g _ _ _ (0, 0) h.1]; rfl
theorem SplitAt.c1 {w : World} {base g : Nat} {hv : Value} {held : List UInt8} {lost : Nat} (h : SplitAt w base g hv held lost) : w.cell? ⟨g, 1, none⟩ = some (.int .i64 (lost : Int)) := by
  rw [cell_of_row w g _ _ _ (0, 0) h.1]; rfl
theorem SplitAt.f {w : World} {base g : Nat} {hv : Value} {held : List UInt8} {lost : Nat} (h : SplitAt w base g hv held lost) (i : Nat) : w.frozen? ⟨g, i, none⟩ = false := by simp [World.frozen?, h.1]
theorem SplitAt.lt {w : World} {base g : Nat} {hv : Value} {held : List UInt8} {lost : Nat} (h : SplitAt w base g hv held lost) : g < w.heap.size := (Array.getElem?_eq_some_iff.1 h.1).1

theorem held_any (w : World) (base g : Nat) (hv : Value) (held : List UInt8) (lost : Nat) (h : SplitAt w base g hv held lost) : Calls Tryd.prog 27 #[.pointer (some ⟨g, 0, none⟩)] w fun e w' => e = .returned (.int .i64 (held.length : Int)) ∧ w = w' := by
  obtain ⟨_, A, c, rfl, _, _⟩ := own_bytes h.2.2
  have c0 := h.c0
  clear h
  go_enter Tryd.func27, Tryd.ntmps27
  go_wp2
  go_ret
  exact ⟨rfl, rfl⟩
theorem lost_any (w : World) (base g : Nat) (hv : Value) (held : List UInt8) (lost : Nat) (h : SplitAt w base g hv held lost) : Calls Tryd.prog 28 #[.pointer (some ⟨g, 0, none⟩)] w fun e w' => e = .returned (.int .i64 (lost : Int)) ∧ w = w' := by
  have c1 := h.c1
  clear h
  go_enter Tryd.func28, Tryd.ntmps28
  go_wp2
  go_ret
  exact ⟨rfl, rfl⟩
theorem heap_set0 {w : World} {g : Nat} {a b : Value} {t : TypeId} {fr : Nat × Nat} (h : w.heap[g]? = some (.cells #[a, b] t fr)) (u : Value) : (w.setCell ⟨g, 0, none⟩ u).heap[g]? = some (.cells #[u, b] t fr) := by
  simp [World.setCell, Array.getElem?_modify, h]
theorem heap_set1 {w : World} {g : Nat} {a b : Value} {t : TypeId} {fr : Nat × Nat} (h : w.heap[g]? = some (.cells #[a, b] t fr)) (u : Value) : (w.setCell ⟨g, 1, none⟩ u).heap[g]? = some (.cells #[a, u] t fr) := by
  simp [World.setCell, Array.getElem?_modify, h]
theorem TableAt.chg {S : Nat → Prop} {w w' : World} (h : TableAt w) (hc : Chg S w w') (h0 : ¬ S 0) : TableAt w' := fun i hi =>
  (hc.cell (p := ⟨0, i, none⟩) (World.block_lt_of_cell? w _ (h i hi)) h0).trans (h i hi)

/-- How far Feed has come. -/
def Fed (l : List UInt8) (outs : List (List UInt8)) (a ls : Nat) : Prop := cutS l = (outs ++ (cutS (l.drop a)).1, ls + (cutS (l.drop a)).2.1, (cutS (l.drop a)).2.2)
theorem Fed.zero (l : List UInt8) : Fed l [] 0 0 := by simp [Fed]
theorem Fed.good {l : List UInt8} {outs : List (List UInt8)} {a ls : Nat} (h : Fed l outs a ls) (he : (ends (l.drop a)).2 = 0) : Fed l (outs ++ [body (l.drop a)]) (a + (ends (l.drop a)).1) ls := by
  unfold Fed at h ⊢
  rw [h, cutS_good he, List.drop_drop]
  simp
theorem Fed.bad {l : List UInt8} {outs : List (List UInt8)} {a ls : Nat} (h : Fed l outs a ls) (h9 : (ends (l.drop a)).2 ≠ 90) (he : (ends (l.drop a)).2 ≠ 0) : Fed l outs (a + 1) (ls + 1) := by
  unfold Fed at h ⊢
  rw [h, cutS_bad h9 he, List.drop_drop]
  simp [Nat.add_assoc]
theorem Fed.stop {l : List UInt8} {outs : List (List UInt8)} {a ls : Nat} (h : Fed l outs a ls) (he : (ends (l.drop a)).2 = 90) : cutS l = (outs, ls, l.drop a) := by
  unfold Fed at h
  rw [h, cutS_short he]
  simp

/-- What 'Feed' answers, where l is what was held and the new piece. -/
def FeedIs (base g : Nat) (hv : Value) (l : List UInt8) (lost : Nat) (w : World) (e : Ending) (w' : World) : Prop :=
  ∃ (v hv' : Value) (xs : List Value), e = .returned v ∧ w'.ownsRow w.heap.size 22 1 v xs.length xs ∧ OwnAll w' w.heap.size 5 xs (cutS l).1 ∧ (∀ x ∈ xs, Apart x v) ∧ (∀ x ∈ xs, Apart x hv') ∧ Apart v hv' ∧
    SplitAt w' base g hv' (cutS l).2.2 (lost + (cutS l).2.1) ∧ (∀ k, hv'.ownBlock = some k → w.heap.size ≤ k) ∧ Chg (fun k => k = g ∨ hv.ownBlock = some k) w w'

theorem drop_all_ends {l : List UInt8} {a : Nat} (h : l.length ≤ a) : (ends (l.drop a)).2 = 90 := by rw [List.drop_eq_nil_of_le h, ends_nil]

theorem first_bad_n (A : Option Addr) (n c : Nat) (l : List UInt8) (w : World) (hl : BytesAt w A l) (hlc : l.length ≤ c) (hn : l.length ≤ 4611686018427387904) (ht : TableAt w) (he : (ends l).2 ≠ 0) (e : n = l.length) :
    Calls Tryd.prog 24 #[.slice A n c] w (FirstBad l w) := by subst e; exact first_bad A c l w hl hlc hn ht he
theorem first_good_n (A : Option Addr) (n c : Nat) (l : List UInt8) (w : World) (hl : BytesAt w A l) (hlc : l.length ≤ c) (hn : l.length ≤ 4611686018427387904) (ht : TableAt w) (he : (ends l).2 = 0) (e : n = l.length) :
    Calls Tryd.prog 24 #[.slice A n c] w (FirstGood l w) := by subst e; exact first_good A c l w hl hlc hn ht he

set_option maxHeartbeats 1600000 in
set_option maxRecDepth 100000 in
theorem feed_any (A : Option Addr) (c : Nat) (base g : Nat) (hv : Value) (held piece : List UInt8) (lost : Nat) (w : World) (hS : SplitAt w base g hv held lost) (hp : BytesAt w A piece) (hA : A = none → c = 0) (hc : piece.length ≤ c)
    (hb : 0 < base) (hn : held.length + piece.length ≤ 1099511627776) (hlo : lost ≤ 4611686018427387904) (hbw : base ≤ w.heap.size) (ht : TableAt w) :
    Calls Tryd.prog 30 #[.pointer (some ⟨g, 0, none⟩), .slice A piece.length c] w (FeedIs base g hv (held ++ piece) lost w) := by
  have c0 := hS.c0
  have HS := Lib.hid hS
  have HP := Lib.hid hp
  have HA := Lib.hid hA
  have HI := Lib.hid u8info
  have HII := Lib.hid bytessinfo
  have HT := Lib.hid ht
  clear hS hp hA ht
  go_enter Tryd.func30, Tryd.ntmps30
  go_wp2_with (at_builtin; refine Hid.out ?_)
  refine Lib.hid ?_
  refine wpList_append_src _ rfl _ _ 22 rfl base 5 _ 1 1 Tryd.underlying22 HI.out rfl (by omega) hv held.length (vals held) rfl HS.out.2.2 A piece.length c (vals piece) rfl (by rw [vals_length]; omega) (fun h => by have := HA.out h; omega) (bytes_news HP.out) (vals_one piece) (by unfold maxLen; omega) (by omega) hbw ?_
  intro v1 w1 hown hgrow hat
  rw [← vals_append] at hown
  obtain ⟨l, hl⟩ : ∃ l, l = held ++ piece := ⟨_, rfl⟩
  have hll : held.length + piece.length = l.length := by rw [hl, List.length_append]
  rw [← hl, hll] at hown
  rw [hll] at hn
  have hgne := own_ne HS.out.2.2 HS.out.1 (by decide)
  have G1 := Lib.hid ((hgrow.block g HS.out.lt (fun e => hgne e.symm)).trans HS.out.1)
  have C1 := Lib.hid (Chg.mono (S' := fun k => k = g ∨ hv.ownBlock = some k) (grown_chg hgrow) (fun k _ h => .inr h))
  obtain ⟨_, A1, c1, rfl, hB1, hA1, hlc1, hc63⟩ := own_bytes hown
  have hg1 := own_ne hown G1.out (by decide)
  have h00 : ¬ (0 = g ∨ hv.ownBlock = some 0) := by
    rintro (h | h)
    · have := HS.out.2.1; omega
    · have := (HS.out.2.2.lt 0 h).1; omega
  have T1 := Lib.hid (HT.out.chg C1.out h00)
  have hg0 : ¬ 0 = g := fun h => h00 (.inl h)
  have HV := Lib.hid hown
  have HG1 := Lib.hid hg1
  have HAT := Lib.hid hat
  have HL := Lib.hid hl
  have hgw1 : g < w1.heap.size := (Array.getElem?_eq_some_iff.1 G1.out).1
  have hs1 : w.heap.size ≤ w1.heap.size := C1.out.size
  have HB1 := Lib.hid hB1
  clear hown hgrow hat hgne h00 hg1 hl hll c0 hB1 hA1
  go_upto_block 0 with (fail)
  go_cut [6, 7] (fun v at' wr => ∃ (a ls : Nat) (xs : List Value) (outs : List (List UInt8)), a ≤ l.length ∧ at' = .int .i64 (a : Int) ∧ cutS l = (outs, ls, l.drop a) ∧ wr.ownsRow w1.heap.size 22 1 v xs.length xs ∧ OwnAll wr w1.heap.size 5 xs outs ∧ (∀ x ∈ xs, Apart x v) ∧
      wr.heap[g]? = some (.cells #[hv, .int .i64 ((lost + ls : Nat) : Int)] 83 (0, 0)) ∧ Chg (fun k => k = g) w1 wr)
  case first =>
    go_wp2
    go_loopw [6, 7] (fun v at' wr => ∃ (a ls : Nat) (xs : List Value) (outs : List (List UInt8)), a ≤ l.length ∧ at' = .int .i64 (a : Int) ∧ Fed l outs a ls ∧ ls ≤ a ∧ xs.length ≤ a ∧ wr.ownsRow w1.heap.size 22 1 v xs.length xs ∧ OwnAll wr w1.heap.size 5 xs outs ∧ (∀ x ∈ xs, Apart x v) ∧
        wr.heap[g]? = some (.cells #[hv, .int .i64 ((lost + ls : Nat) : Int)] 83 (0, 0)) ∧ Chg (fun k => k = g) w1 wr)
      (fun _ at' _ => l.length - (intOf at').toNat)
    case atStart => exact ⟨0, 0, [], [], Nat.zero_le _, rfl, Fed.zero l, Nat.le_refl _, Nat.le_refl _, ⟨rfl, .inl ⟨rfl, rfl⟩⟩, OwnAll.nil _ _ _, fun x h => by simp at h, G1.out, Chg.refl _ _⟩
    case round =>
      obtain ⟨a, ls, xs, outs, ha, rfl, hfe, hlsa, hxa, hown, hall, hap, hg, hch⟩ := hrel
      have HFE := Lib.hid hfe
      have HO := Lib.hid hown
      have HAL := Lib.hid hall
      have HAP := Lib.hid hap
      have HG := Lib.hid hg
      have HC := Lib.hid hch
      clear hfe hown hall hap hg hch
      by_cases hlt : a < l.length
      · have hvr := own_chg HV.out HC.out (fun k hk e => HG1.out (by rw [hk, e]))
        obtain ⟨_, A2, c2, hAe, hBr, _, _, _⟩ := own_bytes hvr
        cases hAe
        obtain ⟨ga, oa, rfl, hga, _⟩ := hBr a hlt
        have hac : ¬ c1 = a := by omega
        obtain ⟨x, hx⟩ : ∃ x, x = (ends (l.drop a)).2 := ⟨_, rfl⟩
        have hdl : l.length - a = (l.drop a).length := by rw [List.length_drop]
        have HDR := Lib.hid (hBr.drop a)
        have HTR := Lib.hid (T1.out.chg HC.out hg0)
        have HX := Lib.hid hx
        have HVR := Lib.hid hvr
        clear hvr hBr hx hga
        by_cases h0 : x = 0
        · have HFG := Lib.hid (first_good_n (some ⟨ga, oa + a, none⟩) (l.length - a) (c1 - a) (l.drop a) wr HDR.out (by omega) (by omega) HTR.out (by rw [← HX.out]; exact h0) hdl)
          obtain ⟨p1, p2, p3⟩ := ends_pos (l := l.drop a) (by rw [← HX.out]; exact h0)
          obtain ⟨k, hk⟩ : ∃ k, k = (body (l.drop a)).length := ⟨_, rfl⟩
          obtain ⟨y, hy⟩ : ∃ y, y = (ends (l.drop a)).1 := ⟨_, rfl⟩
          rw [← hk] at p1 p2 p3
          rw [← hy] at p1
          rw [List.length_drop] at p2
          have HK := Lib.hid hk
          have HY := Lib.hid hy
          clear hk hy hdl
          go_wp2_with (fail)
          refine HFG.out.mono ?_
          rintro e w2 ⟨v8, rfl, ho8, hb2⟩
          obtain ⟨_, A8, c8, rfl, _, _, _, _⟩ := own_bytes ho8
          have hge := fun q hq => (ho8.lt q hq).1
          rw [← HK.out, ← HY.out]
          rw [← HK.out] at ho8 hge
          have O8 := Lib.hid ho8
          have O2 := Lib.hid (own_kept HO.out hb2)
          have AL2 := Lib.hid (HAL.out.kept hb2)
          have A8v := Lib.hid ((Apart.fresh HO.out (v := .slice A8 k c8) hge).symm)
          have A8x := Lib.hid (Apart.freshAll HAL.out (v := .slice A8 k c8) hge)
          have C2 := Lib.hid (HC.out.below hb2)
          have G2 := Lib.hid ((hb2.block g (by have := HC.out.size; omega)).trans HG.out)
          have O8' := Lib.hid (World.ownsRow.mono ho8 HC.out.size)
          clear ho8 hb2 hge
          go_wp2_with (at_builtin; refine Hid.out ?_)
          refine Lib.hid ?_
          refine wpList_append_at _ rfl _ _ 32 rfl w1.heap.size 22 _ 1 24 Tryd.underlying32 HII.out rfl (by omega) u6 xs.length xs rfl (O2.out.alloc _) ⟨w2.heap.size, 0, none⟩ 1 1 [.slice A8 k c8] rfl rfl (World.news_of_block (cs := #[.slice A8 k c8]) (t := 22) (fr := (0, 0)) (heap_alloc_new w2 _)) (by simp [Value.oneCell']) (by unfold maxLen; omega) (by omega) (by have := C2.out.size; simp; omega) ?_
          intro v3 w3 hown3 hgrow3 hat3
          have hal3 : Below w2.heap.size w2 (w2.alloc (.cells #[.slice A8 k c8] 22)) := (Below.refl _ _).alloc (Nat.le_refl _) _
          have AL3 := (AL2.out.kept hal3).chg (grown_chg hgrow3) (fun z hz q hq e => (HAP.out z hz).ne q hq e)
          have O83 := own_chg (own_kept O8'.out hal3) (grown_chg hgrow3) (fun q hq e => A8v.out.ne q hq e)
          have hgv := own_ne O2.out G2.out (by decide)
          have G3 := Lib.hid ((hgrow3.block g (by have := hal3.size; have := (Array.getElem?_eq_some_iff.1 G2.out).1; omega) (fun e => hgv e.symm)).trans ((hal3.block g (Array.getElem?_eq_some_iff.1 G2.out).1).trans G2.out))
          have C3 := Lib.hid ((C2.out.below hal3).grown hgrow3 (fun q hq => .inr (O2.out.lt q hq).1))
          have AP3 : ∀ z ∈ xs ++ [.slice A8 k c8], Apart z v3 := by
            intro z hz
            rcases List.mem_append.1 hz with h | h
            · obtain ⟨i, hi, rfl⟩ := List.mem_iff_getElem.1 h
              exact (HAP.out _ h).grown ((AL2.out.kept hal3).2.1 i _ (List.getElem?_eq_getElem hi)) (Nat.le_refl _) hat3
            · rw [List.mem_singleton.1 h]
              exact A8v.out.grown (own_kept O8'.out hal3) (Nat.le_refl _) hat3
          have HAP3 := Lib.hid AP3
          have hone : OwnAll w3 w1.heap.size 5 [.slice A8 k c8] [body (l.drop a)] := OwnAll.one (by rw [← HK.out]; exact O83)
          have HAL3 := Lib.hid (AL3.append hone (fun z hz y hy => by rw [List.mem_singleton.1 hy]; exact A8x.out z hz))
          have HO3 := Lib.hid hown3
          clear hown3 hgrow3 hat3 hal3 AL3 O83 hgv AP3 hone
          go_wp2
          go_roundw
          case rel =>
            refine ⟨a + y, ls, xs ++ [.slice A8 k c8], outs ++ [body (l.drop a)], by omega, by go_num, ?_, by omega, ?_, ?_, HAL3.out, HAP3.out, G3.out, C3.out⟩
            · rw [HY.out]; exact HFE.out.good (by rw [← HX.out]; exact h0)
            · rw [List.length_append, List.length_singleton]; omega
            · rw [List.length_append]; exact HO3.out
          case measure => simp [intOf]; omega
        · have HFB := Lib.hid (first_bad_n (some ⟨ga, oa + a, none⟩) (l.length - a) (c1 - a) (l.drop a) wr HDR.out (by omega) (by omega) HTR.out (by rw [← HX.out]; exact h0) hdl)
          have hx0 : ((x : Int) != 0) = true := by rw [bne_iff_ne]; omega
          by_cases h9 : x = 90
          · have hx9 : ((x : Int) == 90) = true := by rw [h9]; rfl
            clear hdl
            go_wp2_with (fail)
            refine HFB.out.mono ?_
            rintro e w2 ⟨rfl, hb2⟩
            rw [← HX.out]
            have HB2 := Lib.hid hb2
            have HC2 := Lib.hid (HC.out.below hb2)
            clear hb2
            go_wp2
            go_meet
            exact ⟨a, ls, xs, outs, ha, rfl, HFE.out.stop (by rw [← HX.out]; exact h9), own_kept HO.out HB2.out, HAL.out.kept HB2.out, HAP.out, (HB2.out.block g (by have := HC.out.size; omega)).trans HG.out, HC2.out⟩
          · have hx9 : ((x : Int) == 90) = false := by rw [beq_eq_false_iff_ne]; omega
            clear hdl
            go_wp2_with (fail)
            refine HFB.out.mono ?_
            rintro e w2 ⟨rfl, hb2⟩
            rw [← HX.out]
            have hg2 := (hb2.block g (by have := HC.out.size; omega)).trans HG.out
            obtain ⟨q, hq⟩ : ∃ q, q = lost + ls := ⟨_, rfl⟩
            rw [← hq] at hg2
            have d1 : w2.cell? ⟨g, 1, none⟩ = some (.int .i64 (q : Int)) := by rw [cell_of_row w2 g _ _ _ (0, 0) hg2]; rfl
            have f1 : w2.frozen? ⟨g, 1, none⟩ = false := by simp [World.frozen?, hg2]
            have hqb : q ≤ 4611687117939015680 := by omega
            have hgv := own_ne (own_kept HO.out hb2) hg2 (by decide)
            have HO2 := Lib.hid (own_set (own_kept HO.out hb2) (p := ⟨g, 1, none⟩) hgv (.int .i64 ((q + 1 : Nat) : Int)))
            have hsc := Chg.setCell (S := fun k => k = g) (Chg.refl _ w2) (p := ⟨g, 1, none⟩) (.inl rfl) (.int .i64 ((q + 1 : Nat) : Int))
            have HAL2 := Lib.hid ((HAL.out.kept hb2).chg hsc (fun y hy k hk e => by
              obtain ⟨i, hi, rfl⟩ := List.mem_iff_getElem.1 hy
              exact own_ne ((HAL.out.kept hb2).2.1 i _ (List.getElem?_eq_getElem hi)) hg2 (by decide) (by rw [hk, e])))
            have HC2 := Lib.hid ((HC.out.below hb2).trans hsc)
            have HG2 := Lib.hid (heap_set1 hg2 (.int .i64 ((q + 1 : Nat) : Int)))
            have HQ := Lib.hid hq
            clear hg2 hq hgv hsc hb2
            go_wp2
            go_roundw
            case rel =>
              refine ⟨a + 1, ls + 1, xs, outs, by omega, by go_num, HFE.out.bad (by rw [← HX.out]; exact h9) (by rw [← HX.out]; exact h0), by omega, by omega, HO2.out, HAL2.out, HAP.out, ?_, HC2.out⟩
              rw [show lost + (ls + 1) = q + 1 by rw [HQ.out]; omega]; exact HG2.out
            case measure => simp [intOf]; omega
      · obtain rfl : a = l.length := by omega
        go_wp2
        go_meet
        exact ⟨l.length, ls, xs, outs, Nat.le_refl _, rfl, HFE.out.stop (drop_all_ends (Nat.le_refl _)), HO.out, HAL.out, HAP.out, HG.out, HC.out⟩
  case rest =>
    obtain ⟨a, ls, xs, outs, ha, rfl, hcu, hown, hall, hap, hg, hch⟩ := hcut
    obtain ⟨r, hr⟩ : ∃ r, r = l.drop a := ⟨_, rfl⟩
    have hrl : l.length - a = r.length := by rw [hr, List.length_drop]
    have hvr := own_chg HV.out hch (fun k hk e => HG1.out (by rw [hk, e]))
    have hkeep : ∀ v3 w3, w3.ownsRow wc.heap.size 5 1 v3 r.length (vals r) → Below wc.heap.size wc w3 →
        w3.heap[g]? = some (.cells #[hv, .int .i64 ((lost + ls : Nat) : Int)] 83 (0, 0)) ∧
        ((w3.setCell ⟨g, 0, none⟩ v3).ownsRow w.heap.size 22 1 u6 xs.length xs ∧ OwnAll (w3.setCell ⟨g, 0, none⟩ v3) w.heap.size 5 xs (cutS l).1 ∧ (∀ x ∈ xs, Apart x u6) ∧ (∀ x ∈ xs, Apart x v3) ∧ Apart u6 v3 ∧
          SplitAt (w3.setCell ⟨g, 0, none⟩ v3) base g v3 (cutS l).2.2 (lost + (cutS l).2.1) ∧ (∀ k, v3.ownBlock = some k → w.heap.size ≤ k) ∧ Chg (fun k => k = g ∨ hv.ownBlock = some k) w (w3.setCell ⟨g, 0, none⟩ v3)) := by
      intro v3 w3 ho3 hb3
      have hgl := (Array.getElem?_eq_some_iff.1 hg).1
      have hg3 := (hb3.block g hgl).trans hg
      have hge := fun q hq => (ho3.lt q hq).1
      have hc1 := hch.size
      rw [hcu]
      have hset := Chg.setCell (S := fun k => k = g) (Chg.refl _ w3) (p := ⟨g, 0, none⟩) (.inl rfl) v3
      refine ⟨hg3, ?_, ?_, hap, Apart.freshAll hall hge, Apart.fresh hown hge, ⟨heap_set0 hg3 v3, HS.out.2.1, ?_⟩, fun k hk => ?_, ?_⟩
      · exact World.ownsRow.mono (own_set (own_kept hown hb3) (p := ⟨g, 0, none⟩) (own_ne (own_kept hown hb3) hg3 (by decide)) v3) hs1
      · refine OwnAll.mono ((hall.kept hb3).chg hset fun y hy k hk e => ?_) hs1
        obtain ⟨i, hi, rfl⟩ := List.mem_iff_getElem.1 hy
        exact own_ne ((hall.kept hb3).2.1 i _ (List.getElem?_eq_getElem hi)) hg3 (by decide) (by rw [hk, e])
      · rw [← hr]
        exact World.ownsRow.mono (own_set ho3 (p := ⟨g, 0, none⟩) (own_ne ho3 hg3 (by decide)) v3) (by omega)
      · have := hge k hk; omega
      · exact (C1.out.trans' (hch.below hb3) (fun i _ h => .inl h)).setCell (.inl (.inl rfl)) v3
    have HR := Lib.hid hr
    have HRL := Lib.hid hrl
    have HKEEP := Lib.hid hkeep
    have hbr : BytesAt wc A1 l := by
      obtain ⟨_, A2, c2, hAe, hB, _⟩ := own_bytes hvr
      cases hAe
      exact hB
    have hshape : (A1 = none ∧ c1 = 0) ∨ ∃ ga, A1 = some ⟨ga, 0, none⟩ := by
      rcases hvr.2 with ⟨h, _⟩ | ⟨ga, cap, cur, h, _⟩
      · simp only [Value.slice.injEq] at h; exact .inl ⟨h.1, h.2.2⟩
      · simp only [Value.slice.injEq] at h; exact .inr ⟨ga, h.1⟩
    have HBR := Lib.hid hbr
    clear hcu hown hall hap hg hch hr hrl hkeep hbr hvr
    rcases hshape with ⟨rfl, rfl⟩ | ⟨ga, rfl⟩
    · obtain rfl : a = 0 := by omega
      have hl0 : l.length = 0 := by omega
      rw [hl0]
      go_wp2_with (at_builtin; refine Hid.out ?_)
      refine Lib.hid ?_
      refine wpList_append_src _ rfl _ _ 22 rfl wc.heap.size 5 _ 1 1 Tryd.underlying22 HI.out rfl (by omega) (.slice none 0 0) 0 [] rfl ⟨rfl, .inl ⟨rfl, rfl⟩⟩ none 0 0 (vals r) rfl (by rw [vals_length, ← HRL.out]; omega) (fun _ => rfl) (fun ad h => by cases h) (vals_one r) (by unfold maxLen; omega) (by omega) (Nat.le_refl _) ?_
      intro v3 w3 hown3 hgrow3 _
      have ho3 : w3.ownsRow wc.heap.size 5 1 v3 r.length (vals r) := by rw [List.nil_append] at hown3; have e : 0 + (0) = r.length := (by rw [← HRL.out]; omega); rw [e] at hown3; exact hown3
      obtain ⟨_, A3, c3, rfl, _, _, _, _⟩ := own_bytes ho3
      have hkeep := HKEEP.out _ w3 ho3 ((Below.refl _ _).grown hgrow3 (Nat.le_refl _) (fun q hq => by simp [Value.ownBlock] at hq))
      obtain ⟨hg3, hfin⟩ := hkeep
      have d0 : w3.cell? ⟨g, 0, none⟩ = some hv := by rw [cell_of_row w3 g _ _ _ (0, 0) hg3]; rfl
      have f0 : w3.frozen? ⟨g, 0, none⟩ = false := by simp [World.frozen?, hg3]
      have HFIN := Lib.hid hfin
      clear hown3 ho3 hgrow3 hg3 hfin
      go_wp2
      go_ret
      rw [← HL.out]
      exact ⟨_, _, xs, rfl, HFIN.out⟩
    · have hbd := Lib.hid (HBR.out.drop a)
      rw [Nat.zero_add] at hbd
      by_cases hca : c1 = a
      · subst hca
        have hl0 : l.length = c1 := by omega
        rw [hl0]
        go_wp2_with (at_builtin; refine Hid.out ?_)
        refine Lib.hid ?_
        refine wpList_append_src _ rfl _ _ 22 rfl wc.heap.size 5 _ 1 1 Tryd.underlying22 HI.out rfl (by omega) (.slice none 0 0) 0 [] rfl ⟨rfl, .inl ⟨rfl, rfl⟩⟩ (some ⟨ga, 0, none⟩) 0 0 (vals r) rfl (by rw [vals_length, ← HRL.out]; omega) (fun _ => rfl) (fun ad _ j u hu => by rw [List.eq_nil_of_length_eq_zero (show r.length = 0 by rw [← HRL.out]; omega)] at hu; simp [vals] at hu) (vals_one r) (by unfold maxLen; omega) (by omega) (Nat.le_refl _) ?_
        intro v3 w3 hown3 hgrow3 _
        have ho3 : w3.ownsRow wc.heap.size 5 1 v3 r.length (vals r) := by rw [List.nil_append] at hown3; have e : 0 + (0) = r.length := (by rw [← HRL.out]; omega); rw [e] at hown3; exact hown3
        obtain ⟨_, A3, c3, rfl, _, _, _, _⟩ := own_bytes ho3
        have hkeep := HKEEP.out _ w3 ho3 ((Below.refl _ _).grown hgrow3 (Nat.le_refl _) (fun q hq => by simp [Value.ownBlock] at hq))
        obtain ⟨hg3, hfin⟩ := hkeep
        have d0 : w3.cell? ⟨g, 0, none⟩ = some hv := by rw [cell_of_row w3 g _ _ _ (0, 0) hg3]; rfl
        have f0 : w3.frozen? ⟨g, 0, none⟩ = false := by simp [World.frozen?, hg3]
        have HFIN := Lib.hid hfin
        clear hown3 ho3 hgrow3 hg3 hfin
        go_wp2
        go_ret
        rw [← HL.out]
        exact ⟨_, _, xs, rfl, HFIN.out⟩
      · skip
        go_wp2_with (at_builtin; refine Hid.out ?_)
        refine Lib.hid ?_
        refine wpList_append_src _ rfl _ _ 22 rfl wc.heap.size 5 _ 1 1 Tryd.underlying22 HI.out rfl (by omega) (.slice none 0 0) 0 [] rfl ⟨rfl, .inl ⟨rfl, rfl⟩⟩ (some ⟨ga, a, none⟩) (l.length - a) (c1 - a) (vals r) rfl (by rw [vals_length, ← HRL.out]; omega) (fun h => by cases h) (bytes_news (by rw [HR.out]; exact hbd.out)) (vals_one r) (by unfold maxLen; omega) (by omega) (Nat.le_refl _) ?_
        intro v3 w3 hown3 hgrow3 _
        have ho3 : w3.ownsRow wc.heap.size 5 1 v3 r.length (vals r) := by rw [List.nil_append] at hown3; have e : 0 + ((l.length - a)) = r.length := (by rw [← HRL.out]; omega); rw [e] at hown3; exact hown3
        obtain ⟨_, A3, c3, rfl, _, _, _, _⟩ := own_bytes ho3
        have hkeep := HKEEP.out _ w3 ho3 ((Below.refl _ _).grown hgrow3 (Nat.le_refl _) (fun q hq => by simp [Value.ownBlock] at hq))
        obtain ⟨hg3, hfin⟩ := hkeep
        have d0 : w3.cell? ⟨g, 0, none⟩ = some hv := by rw [cell_of_row w3 g _ _ _ (0, 0) hg3]; rfl
        have f0 : w3.frozen? ⟨g, 0, none⟩ = false := by simp [World.frozen?, hg3]
        have HFIN := Lib.hid hfin
        clear hown3 ho3 hgrow3 hg3 hfin
        go_wp2
        go_ret
        rw [← HL.out]
        exact ⟨_, _, xs, rfl, HFIN.out⟩
end Go.Proofs.YtooagpjfcnpheaaDoor
