/- StacksPick: Pick asks from the last to the first, each once, up to the first yes, and answers that one. Proved for every list, with no condition. -/
import Derived.Test.YtejlpdcoaejciaaStacksNone
import Derived.Test.YtejlpdcoaejciaaStacksDid
import Derived.Test.YtejlpdcoaejciaaChg
import Derived.Deep.DeepCutAuto
namespace Go.Proofs.Ytejlpdcoaejciaa
open Go.ChangeShapes Go.WideShapes Go.ChangeAt Go.RowKit
attribute [local go_sem] Try.eqID Try.fnNil Try.nilNil

theorem own_slice {w : World} {base : Nat} {e : TypeId} {size n : Nat} {v : Value} {xs : List Value} (h : w.ownsRow base e size v n xs) : ∃ A c, v = .slice A n c ∧ (A = none → n = 0) ∧ n ≤ c ∧ c ≤ 9223372036854775807 := by
  rcases h.2 with ⟨rfl, rfl⟩ | ⟨g, cap, cur, rfl, _, _, h1, h2, _⟩
  · exact ⟨none, 0, rfl, fun _ => rfl, Nat.le_refl _, by omega⟩
  · exact ⟨_, cap, rfl, (fun h => by cases h), h1, by simpa [maxLen] using h2⟩

theorem pick_mod (n m : Int) (h : 0 < m) : (if n.tmod m < 0 then n.tmod m + m else n.tmod m) = n % m := by
  have h1 := Int.tmod_lt_of_pos n h
  have h2 : -m < n.tmod m := Int.lt_tmod_of_pos n h
  have h3 : (n.tmod m) % m = n % m := by
    rw [Int.tmod_def, show n - m * n.tdiv m = n + m * (- n.tdiv m) by rw [Int.mul_neg]; omega, Int.add_mul_emod_self_left]
  split
  · rw [← h3, ← Int.add_emod_right, Int.emod_eq_of_lt (by omega) (by omega)]
  · rw [← h3, Int.emod_eq_of_lt (by omega) (by omega)]

theorem pick07_any (n m : Int) (w : World) (h : 0 < m) (hm : m ≤ 4000000000000000000) :
    Calls Try.prog 27 #[.int .i64 n, .int .i64 m] w fun e w' => e = .returned (.int .i64 (n % m)) ∧ w' = w := by
  have h1 := Int.tmod_lt_of_pos n h
  have h2 : -m < n.tmod m := Int.lt_tmod_of_pos n h
  have h3 : ¬ m = 0 := by omega
  have HR := Lib.hid (pick_mod n m h)
  by_cases hneg : n.tmod m < 0
  · go_enter Try.func27, Try.ntmps27
    go_wp2
    go_ret
    refine ⟨?_, rfl⟩
    rw [← HR.out, if_pos hneg]
    rfl
  · go_enter Try.func27, Try.ntmps27
    go_wp2
    go_ret
    refine ⟨?_, rfl⟩
    rw [← HR.out, if_neg (by omega)]
    rfl

theorem Try.idinfo' : (Try.prog.info? 67).map (fun i => (i.zero, i.size, i.bytes)) = some (some (.agg #[.int .i64 0, .int .i64 0]), 2, 16) := by kernel_rfl

/-- The ids that have been asked: a captured slice. -/
def AskAt (w : World) (a : Nat) (v : Value) (l : List (Int × Int)) : Prop :=
  w.heap[a]? = some (.cells #[v] 65 (0, 0)) ∧ w.ownsRow (a + 1) 67 2 v l.length (flat l)

/-- What the closure does. -/
def Asked (a : Nat) (v : Value) (l : List (Int × Int)) (x y : Int) (b : Bool) (w : World) (e : Ending) (w' : World) : Prop :=
  ∃ v', e = .returned (.bool b) ∧ AskAt w' a v' (l ++ [(x, y)]) ∧ (v'.ownBlock = v.ownBlock ∨ ∃ k, v'.ownBlock = some k ∧ w.heap.size ≤ k) ∧ Chg (fun k => k = a ∨ v.ownBlock = some k) w w'

theorem Chg.drewN {S : Nat → Prop} {a w : World} (h : Chg S a w) (n : Nat) : Chg S a (w.drewN n) := ⟨h.os, h.tape, h.output, h.size, h.block⟩
theorem Asked.drewN {a : Nat} {v : Value} {l : List (Int × Int)} {x y : Int} {b : Bool} {w w' : World} {e : Ending} (h : Asked a v l x y b w e w') (n : Nat) : Asked a v l x y b w e (w'.drewN n) := by
  obtain ⟨v', h1, h2, h3, h4⟩ := h
  exact ⟨v', h1, h2, h3, h4.drewN n⟩

set_option maxRecDepth 100000 in
theorem pick1_any (x y by' rest : Int) (a b r : Nat) (v : Value) (l : List (Int × Int)) (w : World) (hA : AskAt w a v l) (hb : b < w.heap.size) (hr : r < w.heap.size) (hba : b < a) (hra : r < a)
    (cb : w.cell? ⟨b, 0, none⟩ = some (.int .i64 by')) (cr : w.cell? ⟨r, 0, none⟩ = some (.int .i64 rest)) (hby : 0 < by') (hby2 : by' ≤ 6) (hl : (l.length + 1) * 16 ≤ 140737488355328) :
    Calls Try.prog 29 #[.agg #[.int .i64 x, .int .i64 y], .pointer (some ⟨a, 0, none⟩), .pointer (some ⟨b, 0, none⟩), .pointer (some ⟨r, 0, none⟩)] w (Asked a v l x y (y % by' == rest) w) := by
  obtain ⟨A0, c0, rfl, hA0, hc0, hc63⟩ := own_slice hA.2
  have ca : w.cell? ⟨a, 0, none⟩ = some (.slice A0 l.length c0) := by rw [cell_of_row w a _ _ _ (0, 0) hA.1]; rfl
  have fa : w.frozen? ⟨a, 0, none⟩ = false := by simp [World.frozen?, hA.1]
  have ha := (Array.getElem?_eq_some_iff.1 hA.1).1
  have HI := Lib.hid Try.idinfo'
  have HA := Lib.hid hA
  clear hA
  go_enter Try.func29, Try.ntmps29
  go_wp2_with (at_builtin; refine Hid.out ?_)
  refine Lib.hid ?_
  have hbase : a + 1 ≤ ((w.alloc (.cells #[.int .i64 x, .int .i64 y] 67)).alloc (.cells #[.int .i64 x, .int .i64 y] 67)).heap.size := by simp; omega
  refine wpList_append_at _ rfl _ _ 65 rfl (a + 1) 67 _ 2 16 Try.underlying65 HI.out rfl (by omega) _ l.length (flat l) rfl ((HA.out.2.alloc _).alloc _) ⟨w.heap.size + 1, 0, none⟩ 1 1 [.int .i64 x, .int .i64 y] rfl rfl (World.news_of_block (cs := #[.int .i64 x, .int .i64 y]) (t := 67) (fr := (0, 0)) (by have := heap_alloc_new (w.alloc (.cells #[.int .i64 x, .int .i64 y] 67)) (.cells #[.int .i64 x, .int .i64 y] 67); rwa [World.size_alloc] at this)) (by simp [Value.oneCell']) (by unfold maxLen; omega) hl hbase ?_
  intro v3 w3 hown3 hgrow3 hat3
  have B1 : Below w.heap.size w ((w.alloc (.cells #[.int .i64 x, .int .i64 y] 67)).alloc (.cells #[.int .i64 x, .int .i64 y] 67)) := ((Below.refl _ _).alloc (Nat.le_refl _) _).alloc (by simp) _
  rw [show flat l ++ [.int .i64 x, .int .i64 y] = flat (l ++ [(x, y)]) by rw [flat_append, flat_one], show l.length + 1 = (l ++ [(x, y)]).length by rw [List.length_append]; rfl] at hown3
  obtain ⟨l2, hl2⟩ : ∃ l2, l2 = l ++ [(x, y)] := ⟨_, rfl⟩
  rw [← hl2] at hown3
  obtain ⟨A3, c3, rfl, _, _, _⟩ := own_slice hown3
  have hna : (Value.slice A0 l.length c0).ownBlock ≠ some a := fun e => by
    have := (HA.out.2.lt a e).1
    omega
  have hg3 := (hgrow3.block a (by have := B1.size; omega) (fun e => hna e.symm)).trans ((B1.block a ha).trans HA.out.1)
  have hC3 : Chg (fun k => k = a ∨ (Value.slice A0 l.length c0).ownBlock = some k) w w3 := (Chg.ofBelow B1).grown hgrow3 (fun k hk => .inl (.inr hk))
  have hcb := (hC3.cell (p := ⟨b, 0, none⟩) hb (fun h => by
    have h' : b = a ∨ (Value.slice A0 l.length c0).ownBlock = some b := h
    rcases h' with h | h
    · omega
    · have := (HA.out.2.lt b h).1; omega)).trans cb
  have hcr := (hC3.cell (p := ⟨r, 0, none⟩) hr (fun h => by
    have h' : r = a ∨ (Value.slice A0 l.length c0).ownBlock = some r := h
    rcases h' with h | h
    · omega
    · have := (HA.out.2.lt r h).1; omega)).trans cr
  have hxy : w3.cell? ⟨w.heap.size, 1, none⟩ = some (.int .i64 y) := by
    have h1 := hgrow3.block w.heap.size (by simp; omega) (fun e => by have := (HA.out.2.lt _ e.symm).2; omega)
    rw [World.cell?_of_block (w := (w.alloc (.cells #[.int .i64 x, .int .i64 y] 67)).alloc (.cells #[.int .i64 x, .int .i64 y] 67)) (a := ⟨w.heap.size, 1, none⟩) h1]
    simp
  have hset : ∀ u, (w3.setCell ⟨a, 0, none⟩ u).heap[a]? = some (.cells #[u] 65 (0, 0)) := fun u => by simp [World.setCell, Array.getElem?_modify, hg3]
  have fa3 : w3.frozen? ⟨a, 0, none⟩ = false := by simp [World.frozen?, hg3]
  have ca3 : w3.cell? ⟨a, 0, none⟩ = some (.slice A0 l.length c0) := by rw [cell_of_row w3 a _ _ _ (0, 0) hg3]; rfl
  have dxy : (w3.setCell ⟨a, 0, none⟩ (.slice A3 l2.length c3)).cell? ⟨w.heap.size, 1, none⟩ = some (.int .i64 y) := by
    rw [World.cell?_setCell_other _ _ _ _ (fun e => by cases e)]; exact hxy
  have dcb : (w3.setCell ⟨a, 0, none⟩ (.slice A3 l2.length c3)).cell? ⟨b, 0, none⟩ = some (.int .i64 by') := by
    rw [World.cell?_setCell_other _ _ _ _ (fun e => by cases e; omega)]; exact hcb
  have dcr : (w3.setCell ⟨a, 0, none⟩ (.slice A3 l2.length c3)).cell? ⟨r, 0, none⟩ = some (.int .i64 rest) := by
    rw [World.cell?_setCell_other _ _ _ _ (fun e => by cases e; omega)]; exact hcr
  have HF := Lib.hid (show Asked a (.slice A0 l.length c0) l x y (y % by' == rest) w (.returned (.bool (y % by' == rest))) (w3.setCell ⟨a, 0, none⟩ (.slice A3 l2.length c3)) from
    ⟨_, rfl, by rw [← hl2]; exact ⟨hset _, own_set hown3 (p := ⟨a, 0, none⟩) (fun e => by have := (hown3.lt a e).1; omega) _⟩, by
      rcases hat3 with h | h
      · exact .inl h
      · exact .inr ⟨_, h, by rw [World.size_alloc, World.size_alloc]; omega⟩, hC3.setCell (.inl (.inl rfl)) _⟩)
  generalize hw4 : w3.setCell ⟨a, 0, none⟩ (.slice A3 l2.length c3) = w4 at HF dxy dcb dcr
  have HW4 := Lib.hid hw4
  have HL2 := hl2
  clear hl2 HL2 hown3 hgrow3 hat3 B1 hna hg3 hC3 hcb hcr hxy hset hw4 hbase ca fa cb cr
  go_wp2
  rw [HW4.out]
  go_quiet ((go_at_call 27; exact Calls.quiet_of_same (pick07_any _ _ _ hby (by omega))))
  go_wp2
  go_ret
  exact HF.out.drewN _
theorem drop_rev {L : List (Int × Int)} {k : Nat} (h : k < L.length) : (L.drop k).reverse = (L.drop (k + 1)).reverse ++ [((L.getD k (0, 0)).1, (L.getD k (0, 0)).2)] := by
  rw [List.drop_eq_getElem_cons h, List.reverse_cons, List.getD_eq_getElem?_getD, List.getElem?_eq_getElem h]
  rfl

set_option maxHeartbeats 800000 in
set_option maxRecDepth 100000 in
theorem pick_found (a b r : Nat) (A : Option Addr) (c : Nat) (L : List (Int × Int)) (by' rest : Int) (v0 : Value) (w : World) (hl : IdsAt w A L) (hbg : ∀ b o, A = some ⟨b, o, none⟩ → 0 < L.length → b < a) (hA : AskAt w a v0 [])
    (hba : b < a) (hra : r < a) (cb : w.cell? ⟨b, 0, none⟩ = some (.int .i64 by')) (cr : w.cell? ⟨r, 0, none⟩ = some (.int .i64 rest)) (hby : 0 < by') (hby2 : by' ≤ 6) (hn : (L.length + 1) * 16 ≤ 140737488355328)
    (m : Nat) (hm : m < L.length) (hy : (L.getD m (0, 0)).2 % by' = rest) (hnot : ∀ j, m < j → j < L.length → (L.getD j (0, 0)).2 % by' ≠ rest) :
    Calls Try.prog 28 #[.slice A L.length c, .func (.func 29) #[] #[.pointer (some ⟨a, 0, none⟩), .pointer (some ⟨b, 0, none⟩), .pointer (some ⟨r, 0, none⟩)]] w
      fun e w' => e = .returned (.tuple #[.agg #[.int .i64 (L.getD m (0, 0)).1, .int .i64 (L.getD m (0, 0)).2], .int .i64 (m : Int), .int .i64 0]) ∧ ∃ v', AskAt w' a v' (L.drop m).reverse ∧ Below a w w' := by
  have ha := (Array.getElem?_eq_some_iff.1 hA.1).1
  have HL := Lib.hid hl
  have HBG := Lib.hid hbg
  have HA := Lib.hid hA
  have HY := Lib.hid hy
  have HN := Lib.hid hnot
  obtain ⟨n, hn'⟩ : ∃ n, n = L.length := ⟨_, rfl⟩
  rw [← hn'] at hn hm ⊢
  have HNL := Lib.hid hn'
  clear hl hbg hA hy hnot hn'
  go_enter Try.func28, Try.ntmps28
  go_wp2
  go_loopw [7] (fun i wr => ∃ (k : Nat) (v : Value), m ≤ k ∧ k < n ∧ i = .int .i64 (k : Int) ∧ AskAt wr a v (L.drop (k + 1)).reverse ∧ Below a w wr ∧ wr.heap[w.heap.size]? = some (.cells #[.int .i64 0, .int .i64 0] 67 (0, 0)) ∧ v.ownBlock ≠ some w.heap.size)
    (fun i _ => (intOf i).toNat)
  case atStart =>
    refine ⟨n - 1, v0, by omega, by omega, by congr 1; omega, ?_, (Below.refl _ _).alloc (by omega) _, heap_alloc_new w _, fun e => ?_⟩
    · rw [show n - 1 + 1 = L.length by rw [← HNL.out]; omega, List.drop_length]
      have hb : Below w.heap.size w (w.alloc (.cells #[.int .i64 0, .int .i64 0] 67)) := (Below.refl _ _).alloc (Nat.le_refl _) _
      exact ⟨(hb.block a ha).trans HA.out.1, pw_own_below' HA.out.2 hb⟩
    · have := (HA.out.2.lt _ e).2; omega
  case round =>
    obtain ⟨k, v, hmk, hkn, rfl, hask, hb, hr, hv⟩ := hrel
    obtain ⟨bb, o, rfl, hb1, q0, q1⟩ := HL.out k (by rw [← HNL.out]; exact hkn)
    have hbb := HBG.out bb o rfl (by rw [← HNL.out]; omega)
    obtain ⟨⟨p, q⟩, hpq⟩ : ∃ p, p = L.getD k (0, 0) := ⟨_, rfl⟩
    rw [← hpq] at q0 q1
    have e0 := (hb.cell (p := ⟨bb, o + k * 2, none⟩) hbb).trans q0
    have e1 := (hb.cell (p := ⟨bb, o + k * 2 + 1, none⟩) hbb).trans q1
    have hlen : ((L.drop (k + 1)).reverse.length + 1) * 16 ≤ 140737488355328 := by rw [List.length_reverse, List.length_drop, ← HNL.out]; omega
    have haw := (Array.getElem?_eq_some_iff.1 hask.1).1
    have HC := Lib.hid (pick1_any p q by' rest a b r v _ wr hask (by omega) (by omega) hba hra ((hb.cell (p := ⟨b, 0, none⟩) hba).trans cb) ((hb.cell (p := ⟨r, 0, none⟩) hra).trans cr) hby hby2 hlen)
    have hrl := (Array.getElem?_eq_some_iff.1 hr).1
    have hk0 : (0 : Int) ≤ (k : Int) := by omega
    have hki : (k : Int) < (n : Int) := by omega
    have HASK := Lib.hid hask
    have HB := Lib.hid hb
    have HR := Lib.hid hr
    have HV := Lib.hid hv
    have HPQ := Lib.hid hpq
    clear hask hb hr hv hpq q0 q1
    by_cases hkm : k = m
    · subst hkm
      have hyes : (q % by' == rest) = true := by
        have := HY.out
        rw [← HPQ.out] at this
        rw [beq_iff_eq]; exact this
      rw [hyes] at HC
      clear hyes
      go_wp2_with (fail)
      refine HC.out.mono ?_
      rintro e w' ⟨v', rfl, hask', hv', hch'⟩
      have hBa : Below a wr w' := hch'.toBelow (by omega) (fun j hj => by
        rcases hj with h | h
        · omega
        · have := (HASK.out.2.lt j h).1; omega)
      have hblk := (hch'.block w.heap.size hrl (fun h => by
        rcases h with h | h
        · omega
        · exact HV.out h)).trans HR.out
      have d0 := (hBa.cell (p := ⟨bb, o + k * 2, none⟩) hbb).trans e0
      have d1 := (hBa.cell (p := ⟨bb, o + k * 2 + 1, none⟩) hbb).trans e1
      have r0 : w'.cell? ⟨w.heap.size, 0, none⟩ = some (.int .i64 0) := by rw [cell_of_row w' w.heap.size _ _ _ (0, 0) hblk]; rfl
      have r1 : w'.cell? ⟨w.heap.size, 1, none⟩ = some (.int .i64 0) := by rw [cell_of_row w' w.heap.size _ _ _ (0, 0) hblk]; rfl
      have f0 : w'.frozen? ⟨w.heap.size, 0, none⟩ = false := by simp [World.frozen?, hblk]
      have f1 : w'.frozen? ⟨w.heap.size, 1, none⟩ = false := by simp [World.frozen?, hblk]
      have hvne : v'.ownBlock ≠ some w.heap.size := fun e => by
        rcases hv' with h | ⟨j, h, h2⟩
        · exact HV.out (by rw [← h]; exact e)
        · rw [h] at e; simp at e; omega
      have HB' := Lib.hid (HB.out.trans hBa)
      have HA' := Lib.hid hask'
      have HVN := Lib.hid hvne
      have HBK := Lib.hid hblk
      clear hask' hv' hch' hBa hblk hvne e0 e1
      have hfin : ((w'.setCell ⟨w.heap.size, 0, none⟩ (.int .i64 p)).setCell ⟨w.heap.size, 1, none⟩ (.int .i64 q)).heap[w.heap.size]? = some (.cells #[.int .i64 p, .int .i64 q] 67 (0, 0)) := by
        simp [World.setCell, Array.getElem?_modify, HBK.out]
      have z0 : ((w'.setCell ⟨w.heap.size, 0, none⟩ (.int .i64 p)).setCell ⟨w.heap.size, 1, none⟩ (.int .i64 q)).cell? ⟨w.heap.size, 0, none⟩ = some (.int .i64 p) := by rw [cell_of_row _ w.heap.size _ _ _ (0, 0) hfin]; rfl
      have z1 : ((w'.setCell ⟨w.heap.size, 0, none⟩ (.int .i64 p)).setCell ⟨w.heap.size, 1, none⟩ (.int .i64 q)).cell? ⟨w.heap.size, 1, none⟩ = some (.int .i64 q) := by rw [cell_of_row _ w.heap.size _ _ _ (0, 0) hfin]; rfl
      have Z0 := Lib.hid z0
      have Z1 := Lib.hid z1
      clear hfin z0 z1
      go_wp2
      refine bodyPost_ret (v := .tuple #[.agg #[.int .i64 p, .int .i64 q], .int .i64 (k : Int), .int .i64 0]) ?_ rfl ⟨?_, v', ?_, ?_⟩
      · have z0 := Z0.out
        have z1 := Z1.out
        simp [results, Try.results28, go_sem, z0, z1]
      · rw [← HPQ.out]
      · have h1 := HA'.out
        rw [show (p, q) = ((L.getD k (0, 0)).1, (L.getD k (0, 0)).2) by rw [← HPQ.out], ← drop_rev (by rw [← HNL.out]; exact hkn)] at h1
        refine ⟨?_, own_set (own_set h1.2 (p := ⟨w.heap.size, 0, none⟩) HVN.out _) (p := ⟨w.heap.size, 1, none⟩) HVN.out _⟩
        rw [Below.heap_setCell _ _ _ _ (by simp; omega), Below.heap_setCell _ _ _ _ (by simp; omega)]
        exact h1.1
      · exact (HB'.out.setCell (by simp; omega) _).setCell (by simp; omega) _
    · have hno : (q % by' == rest) = false := by
        have := HN.out k (by omega) (by rw [← HNL.out]; exact hkn)
        rw [← HPQ.out] at this
        rw [beq_eq_false_iff_ne]; exact this
      rw [hno] at HC
      clear hno
      go_wp2_with (fail)
      refine HC.out.mono ?_
      rintro e w' ⟨v', rfl, hask', hv', hch'⟩
      have hBa : Below a wr w' := hch'.toBelow (by omega) (fun j hj => by
        rcases hj with h | h
        · omega
        · have := (HASK.out.2.lt j h).1; omega)
      have hblk := (hch'.block w.heap.size hrl (fun h => by
        rcases h with h | h
        · omega
        · exact HV.out h)).trans HR.out
      have hvne : v'.ownBlock ≠ some w.heap.size := fun e => by
        rcases hv' with h | ⟨j, h, h2⟩
        · exact HV.out (by rw [← h]; exact e)
        · rw [h] at e; simp at e; omega
      have HB' := Lib.hid (HB.out.trans hBa)
      have HA' := Lib.hid hask'
      have HVN := Lib.hid hvne
      have HBK := Lib.hid hblk
      clear hask' hv' hch' hBa hblk hvne e0 e1
      go_wp2
      go_roundw
      case rel =>
        refine ⟨k - 1, v', by omega, by omega, by congr 1; omega, ?_, HB'.out, HBK.out, HVN.out⟩
        rw [show k - 1 + 1 = k by omega, drop_rev (by rw [← HNL.out]; exact hkn), ← HPQ.out]
        exact HA'.out
      case measure => simp [intOf]; omega
end Go.Proofs.Ytejlpdcoaejciaa
