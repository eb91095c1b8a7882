/- (*Link).Deliver, Drop, by their contracts. -/
import Derived.Test.YtejlpdcoaejciaaLinkDelete
namespace Go.Proofs.Ytejlpdcoaejciaa
open Go.RowKit

def DeliverIs (base g : Nat) (nodes most next : Int) (v : Value) (fs : List FlightR) (k : Int) (w : World) (e : Ending) (w' : World) : Prop :=
  (e = .returned (.tuple #[flightV 0 0 0 (.slice none 0 0) false, .int .i64 160]) ∧ (∀ f ∈ fs, f.num ≠ k) ∧ Below w.heap.size w w') ∨
  ∃ (i : Nat) (h : i < fs.length), fs[i].num = k ∧ e = .returned (.tuple #[flightV fs[i].num fs[i].a fs[i].b fs[i].v fs[i].sp, .int .i64 0]) ∧
    ∃ v', LinkAt w' base g nodes most next v' (fs.eraseIdx i) ∧ v'.ownBlock = v.ownBlock ∧ w'.ownsRow base 5 1 fs[i].v fs[i].l.length (vals fs[i].l) ∧ Chg (fun j => j = g ∨ v.ownBlock = some j) w w'

theorem five_cells {w : World} {b : Nat} {t : TypeId} {fr : Nat × Nat} {c0 c1 c2 c3 c4 : Value} (h : w.heap[b]? = some (.cells #[c0, c1, c2, c3, c4] t fr)) : w.cell? ⟨b, 0, none⟩ = some c0 ∧ w.cell? ⟨b, 1, none⟩ = some c1 ∧ w.cell? ⟨b, 2, none⟩ = some c2 ∧ w.cell? ⟨b, 3, none⟩ = some c3 ∧ w.cell? ⟨b, 4, none⟩ = some c4 :=
  ⟨cell_of_row w b 0 _ _ fr h, cell_of_row w b 1 _ _ fr h, cell_of_row w b 2 _ _ fr h, cell_of_row w b 3 _ _ fr h, cell_of_row w b 4 _ _ fr h⟩

theorem five_chg (w : World) (s : Nat) (c0 c1 c2 c3 c4 : Value) : Chg (fun k => k = s) w (((((w.setCell ⟨s, 0, none⟩ c0).setCell ⟨s, 1, none⟩ c1).setCell ⟨s, 2, none⟩ c2).setCell ⟨s, 3, none⟩ c3).setCell ⟨s, 4, none⟩ c4) :=
  chg_setCells (S := fun k => k = s) rfl [c0, c1, c2, c3, c4] 0 w (Chg.refl _ w)

set_option maxHeartbeats 1600000 in
set_option maxRecDepth 100000 in
theorem deliver16_any (base g : Nat) (nodes most next : Int) (v : Value) (fs : List FlightR) (k : Int) (w : World) (hL : LinkAt w base g nodes most next v fs) (hn : fs.length ≤ 1048577) (hs : ∀ i j (hi : i < fs.length) (hj : j < fs.length), i < j → fs[i].num < fs[j].num) :
    Calls Try.prog 36 #[.pointer (some ⟨g, 0, none⟩), .int .i64 k] w (DeliverIs base g nodes most next v fs k w) := by
  obtain ⟨w1, hw1⟩ : ∃ w1, w1 = w.alloc (.cells #[.int .i64 0, .int .i64 0, .int .i64 0, .slice none 0 0, .bool false] 82) := ⟨_, rfl⟩
  have hb1 : Below w.heap.size w w1 := by rw [hw1]; exact (Below.refl _ _).alloc (Nat.le_refl _) _
  have hz1 : w1.heap[w.heap.size]? = some (.cells #[.int .i64 0, .int .i64 0, .int .i64 0, .slice none 0 0, .bool false] 82 (0, 0)) := by rw [hw1]; exact heap_alloc_new w _
  have hs1 : w.heap.size < w1.heap.size := (Array.getElem?_eq_some_iff.1 hz1).1
  have hgw := (Array.getElem?_eq_some_iff.1 hL.1).1
  have HFI := Lib.hid (find16_any base g nodes most next v fs k w1 (hL.kept hb1) hn hs)
  have HL := Lib.hid hL
  have HW1 := Lib.hid hw1
  have HB1 := Lib.hid hb1
  have HZ1 := Lib.hid hz1
  clear hL hs hw1 hb1 hz1
  go_enter Try.func36, Try.ntmps36
  go_wp2_with (fail)
  rw [← HW1.out]
  refine HFI.out.mono ?_
  rintro e w2 ⟨r, rfl, hr, hb2⟩
  have HB2 := Lib.hid hb2
  have hz2 := (hb2.block _ hs1).trans HZ1.out
  have HL2 := Lib.hid ((HL.out.kept HB1.out).kept hb2)
  have BW2 := Lib.hid (HB1.out.trans (hb2.mono HB1.out.size))
  have hs2 := hb2.size
  rcases hr with ⟨rfl, hno⟩ | ⟨i, rfl, hi, hnum⟩
  · have HNO := Lib.hid hno
    obtain ⟨z0, z1, z2, z3, z4⟩ := five_cells hz2
    have hf : ∀ j, w2.frozen? ⟨w.heap.size, j, none⟩ = false := fun j => by simp [World.frozen?, hz2]
    have HZ2 := Lib.hid hz2
    have hfin : (((((w2.setCell ⟨w.heap.size, 0, none⟩ (.int .i64 0)).setCell ⟨w.heap.size, 1, none⟩ (.int .i64 0)).setCell ⟨w.heap.size, 2, none⟩ (.int .i64 0)).setCell ⟨w.heap.size, 3, none⟩ (.slice none 0 0)).setCell ⟨w.heap.size, 4, none⟩ (.bool false)).heap[w.heap.size]? = some (.cells #[.int .i64 0, .int .i64 0, .int .i64 0, .slice none 0 0, .bool false] 82 (0, 0)) := by
      simp [World.setCell, Array.getElem?_modify, hz2]
    have hbf : Below w.heap.size w (((((w2.setCell ⟨w.heap.size, 0, none⟩ (.int .i64 0)).setCell ⟨w.heap.size, 1, none⟩ (.int .i64 0)).setCell ⟨w.heap.size, 2, none⟩ (.int .i64 0)).setCell ⟨w.heap.size, 3, none⟩ (.slice none 0 0)).setCell ⟨w.heap.size, 4, none⟩ (.bool false)) :=
      ((((BW2.out.setCell (Nat.le_refl _) _).setCell (Nat.le_refl _) _).setCell (Nat.le_refl _) _).setCell (Nat.le_refl _) _).setCell (Nat.le_refl _) _
    have HFIN := Lib.hid hfin
    have HBF := Lib.hid hbf
    clear hno hb2 hz2 hfin hbf
    go_wp2
    generalize (((((w2.setCell ⟨w.heap.size, 0, none⟩ (.int .i64 0)).setCell ⟨w.heap.size, 1, none⟩ (.int .i64 0)).setCell ⟨w.heap.size, 2, none⟩ (.int .i64 0)).setCell ⟨w.heap.size, 3, none⟩ (.slice none 0 0)).setCell ⟨w.heap.size, 4, none⟩ (.bool false)) = wz at HFIN HBF ⊢
    obtain ⟨y0, y1, y2, y3, y4⟩ := five_cells HFIN.out
    refine bodyPost_ret (v := .tuple #[flightV 0 0 0 (.slice none 0 0) false, .int .i64 160]) ?_ rfl (.inl ⟨rfl, HNO.out, HBF.out⟩)
    simp [results, Try.results36, go_sem, y0, y1, y2, y3, y4, flightV]
  · obtain ⟨A, c, hv, hfl, _, hc, _⟩ := own_flights HL2.out.2.2.1
    obtain ⟨b, rfl, hbl, q0, q1, q2, q3, q4⟩ := hfl i hi
    have hof := HL2.out.2.2.2.1 _ (List.getElem_mem hi)
    obtain ⟨F, hF⟩ : ∃ F, F = fs[i]'hi := ⟨_, rfl⟩
    rw [← hF] at q0 q1 q2 q3 q4 hof hnum
    obtain ⟨_, Af, cf, hfv, _, _, _, _⟩ := own_bytes hof
    have n3 : w2.cell? ⟨g, 3, none⟩ = some (.slice (some ⟨b, 0, none⟩) fs.length c) := by rw [cell_of_row w2 g _ _ _ (0, 0) HL2.out.1, ← hv]; rfl
    have hov := HL2.out.2.2.1
    have hvs : ∀ f ∈ fs, ∃ A n c, f.v = .slice A n c := fun f hf => by
      obtain ⟨_, A0, c0, h, _⟩ := own_bytes (HL2.out.2.2.2.1 f hf)
      exact ⟨A0, _, c0, h⟩
    have hbg : b ≠ g := fun e => own_ne hov HL2.out.1 (by decide) (by rw [hv, e]; rfl)
    have hblw : b < w.heap.size := (HL.out.2.2.1.lt b (by rw [hv]; rfl)).2
    obtain ⟨fn, fa, fb, fl, fsp, fv⟩ := F
    simp only at q0 q1 q2 q3 q4 hof hnum hfv
    obtain ⟨n, hn'⟩ : ∃ n, n = fs.length := ⟨_, rfl⟩
    have hin : i < n := by omega
    have hini : (i : Int) < (n : Int) := by omega
    have i0 : (0 : Int) ≤ (i : Int) := by omega
    obtain ⟨w3, hw3⟩ : ∃ w3, w3 = w2.alloc (.cells #[.int .i64 fn, .int .i64 fa, .int .i64 fb, fv, .bool fsp] 82) := ⟨_, rfl⟩
    have hb3 : Below w2.heap.size w2 w3 := by rw [hw3]; exact (Below.refl _ _).alloc (Nat.le_refl _) _
    have hz3 : w3.heap[w2.heap.size]? = some (.cells #[.int .i64 fn, .int .i64 fa, .int .i64 fb, fv, .bool fsp] 82 (0, 0)) := by rw [hw3]; exact heap_alloc_new w2 _
    have hs3 : w2.heap.size < w3.heap.size := (Array.getElem?_eq_some_iff.1 hz3).1
    have HL3 := Lib.hid (HL2.out.kept hb3)
    have hov3 := HL3.out.2.2.1
    rw [hv] at hov3
    have HDL := Lib.hid (delF_any base b c i fs w3 hov3 hi hn hvs)
    rw [← hn'] at n3 HDL
    have m3 := (hb3.cell (p := ⟨g, 3, none⟩) (World.block_lt_of_cell? _ _ n3)).trans n3
    have HW3 := Lib.hid hw3
    have HB3 := Lib.hid hb3
    have HZ3 := Lib.hid hz3
    have HV := Lib.hid hv
    have HN := Lib.hid hn'
    have HF := Lib.hid hF
    have HNU := Lib.hid hnum
    have HOF := Lib.hid (own_kept hof hb3)
    have hz3w := Lib.hid ((hb3.block _ (by omega)).trans hz2)
    clear hb2 hz2 hfl hn' hnum hv hof hov hvs hw3 hb3 hz3 hov3 hF
    rw [hfv] at q3
    have hgw2 : g < w2.heap.size := by omega
    go_wp2_with (fail)
    rw [← hfv, ← HW3.out]
    refine HDL.out.mono ?_
    rintro e w4 ⟨rfl, ho4, hch4⟩
    have g4 := (hch4.block g (by omega) (fun h => hbg h.symm)).trans HL3.out.1
    have k3 : w4.cell? ⟨g, 3, none⟩ = some v := by rw [cell_of_row w4 g _ _ _ (0, 0) g4]; rfl
    have f3 : w4.frozen? ⟨g, 3, none⟩ = false := by simp [World.frozen?, g4]
    rw [HV.out] at k3
    have hne1 : w2.heap.size ≠ g := by omega
    have hne2 : w2.heap.size ≠ b := by omega
    have hne3 : w.heap.size ≠ g := by omega
    have hne4 : w.heap.size ≠ b := by omega
    have hne5 : w.heap.size ≠ w2.heap.size := by omega
    obtain ⟨NV, hNV⟩ : ∃ NV : Value, NV = .slice (some ⟨b, 0, none⟩) (n - 1) c := ⟨_, rfl⟩
    obtain ⟨w5, hw5⟩ : ∃ w5, w5 = w4.setCell ⟨g, 3, none⟩ NV := ⟨_, rfl⟩
    have e7 := (hch4.block w2.heap.size hs3 hne2).trans HZ3.out
    have e7' : w5.heap[w2.heap.size]? = some (.cells #[.int .i64 fn, .int .i64 fa, .int .i64 fb, fv, .bool fsp] 82 (0, 0)) := by rw [hw5, Below.heap_setCell _ _ _ _ hne1]; exact e7
    have e0 : w5.heap[w.heap.size]? = some (.cells #[.int .i64 0, .int .i64 0, .int .i64 0, .slice none 0 0, .bool false] 82 (0, 0)) := by rw [hw5, Below.heap_setCell _ _ _ _ hne3, hch4.block _ (by omega) hne4]; exact hz3w.out
    have eg : w5.heap[g]? = some (.cells #[.int .i64 nodes, .int .i64 most, .int .i64 next, NV] 79 (0, 0)) := by rw [hw5]; simp [World.setCell, Array.getElem?_modify, g4]
    obtain ⟨x0, x1, x2, x3, x4⟩ := five_cells e7
    obtain ⟨y0, y1, y2, y3, y4⟩ := five_cells ((hch4.block _ (by omega) hne4).trans hz3w.out)
    have fz : ∀ j, w4.frozen? ⟨w.heap.size, j, none⟩ = false := fun j => by simp [World.frozen?, (hch4.block _ (by omega) hne4).trans hz3w.out]
    have c35 := Chg.setCell (S := fun k => k = b ∨ k = g) (hch4.mono (fun k _ h => .inl h)) (p := ⟨g, 3, none⟩) (.inl (.inr rfl)) NV
    rw [← hw5] at c35
    have o5 := own_set ho4 (p := ⟨g, 3, none⟩) (by simp [Value.ownBlock]; exact hbg) NV
    rw [← hw5] at o5
    have hz : (((((w5.setCell ⟨w.heap.size, 0, none⟩ (.int .i64 fn)).setCell ⟨w.heap.size, 1, none⟩ (.int .i64 fa)).setCell ⟨w.heap.size, 2, none⟩ (.int .i64 fb)).setCell ⟨w.heap.size, 3, none⟩ fv).setCell ⟨w.heap.size, 4, none⟩ (.bool fsp)).heap[w.heap.size]? = some (.cells #[.int .i64 fn, .int .i64 fa, .int .i64 fb, fv, .bool fsp] 82 (0, 0)) := by
      simp [World.setCell, Array.getElem?_modify, e0]
    have hcz : Chg (fun k => k = w.heap.size) w5 (((((w5.setCell ⟨w.heap.size, 0, none⟩ (.int .i64 fn)).setCell ⟨w.heap.size, 1, none⟩ (.int .i64 fa)).setCell ⟨w.heap.size, 2, none⟩ (.int .i64 fb)).setCell ⟨w.heap.size, 3, none⟩ fv).setCell ⟨w.heap.size, 4, none⟩ (.bool fsp)) :=
      five_chg w5 w.heap.size _ _ _ _ _
    have keepU : ∀ {u : Value} {l' : List UInt8}, w3.ownsRow base 5 1 u l'.length (vals l') → (∀ k, u.ownBlock = some k → k < w.heap.size) → (((((w5.setCell ⟨w.heap.size, 0, none⟩ (.int .i64 fn)).setCell ⟨w.heap.size, 1, none⟩ (.int .i64 fa)).setCell ⟨w.heap.size, 2, none⟩ (.int .i64 fb)).setCell ⟨w.heap.size, 3, none⟩ fv).setCell ⟨w.heap.size, 4, none⟩ (.bool fsp)).ownsRow base 5 1 u l'.length (vals l') := fun {u l'} hu hlt => by
      have hub : u.ownBlock ≠ some b := by
        rcases HL3.out.2.2.1.2 with ⟨h, _⟩ | ⟨k', _, _, h, _, hh, _⟩
        · rw [HV.out] at h; cases h
        · rw [HV.out] at h
          simp only [Value.slice.injEq, Option.some.injEq, Addr.mk.injEq] at h
          rw [← h.1.1] at hh
          exact own_ne hu hh (by decide)
      have h5 := own_chg hu c35 (fun k hk h => by
        rcases h with h | h
        · exact hub (by rw [hk, h])
        · exact own_ne hu HL3.out.1 (by decide) (by rw [hk, h]))
      exact own_chg h5 hcz (fun k hk h => by have := hlt k hk; omega)
    have hgz := (hcz.block g (by have := (Array.getElem?_eq_some_iff.1 eg).1; exact this) (fun h => hne3 h.symm)).trans eg
    have oz := own_chg o5 hcz (fun k hk h => by simp [Value.ownBlock] at hk; omega)
    have HLZ := Lib.hid (show LinkAt (((((w5.setCell ⟨w.heap.size, 0, none⟩ (.int .i64 fn)).setCell ⟨w.heap.size, 1, none⟩ (.int .i64 fa)).setCell ⟨w.heap.size, 2, none⟩ (.int .i64 fb)).setCell ⟨w.heap.size, 3, none⟩ fv).setCell ⟨w.heap.size, 4, none⟩ (.bool fsp)) base g nodes most next NV (fs.eraseIdx i) from by
      refine ⟨hgz, HL.out.2.1, ?_, ?_, ?_⟩
      · rw [List.length_eraseIdx_of_lt hi, hNV, ← HN.out]
        exact oz
      · intro f hf
        have hfs := List.mem_of_mem_eraseIdx hf
        exact keepU (HL3.out.2.2.2.1 f hfs) (fun k hk => ((HL.out.2.2.2.1 f hfs).lt k hk).2)
      · exact HL.out.2.2.2.2.sublist ((List.eraseIdx_sublist fs i).map _))
    have HOZ := Lib.hid (keepU HOF.out (fun k hk => by
      have := HL.out.2.2.2.1 _ (List.getElem_mem hi)
      rw [← HF.out] at this
      exact (this.lt k hk).2))
    have HCZ := Lib.hid (show Chg (fun j => j = g ∨ v.ownBlock = some j) w (((((w5.setCell ⟨w.heap.size, 0, none⟩ (.int .i64 fn)).setCell ⟨w.heap.size, 1, none⟩ (.int .i64 fa)).setCell ⟨w.heap.size, 2, none⟩ (.int .i64 fb)).setCell ⟨w.heap.size, 3, none⟩ fv).setCell ⟨w.heap.size, 4, none⟩ (.bool fsp)) from
      ((Chg.ofBelow (BW2.out.trans (HB3.out.mono BW2.out.size))).trans' c35 (fun k _ h => by
        rcases h with h | h
        · right; rw [HV.out, h]; rfl
        · exact .inl h)).trans' hcz (fun k hk h => by omega))
    have HZZ := Lib.hid hz
    have E7 := Lib.hid e7'
    have HW5 := Lib.hid hw5
    have HNV := Lib.hid hNV
    clear hz hcz keepU hgz oz o5 c35 e7 e7' e0 eg hw5 g4 ho4 hch4
    rw [hNV] at HW5
    have HFV := Lib.hid hfv
    obtain ⟨fvA, fvc, rfl⟩ : ∃ fvA fvc, fv = .slice fvA fl.length fvc := ⟨_, _, hfv⟩
    clear hNV hfv q0 q1 q2 q3 q4 n3 m3
    go_wp2
    rw [← HW5.out]
    generalize (((((w5.setCell ⟨w.heap.size, 0, none⟩ (.int .i64 fn)).setCell ⟨w.heap.size, 1, none⟩ (.int .i64 fa)).setCell ⟨w.heap.size, 2, none⟩ (.int .i64 fb)).setCell ⟨w.heap.size, 3, none⟩ (.slice fvA fl.length fvc)).setCell ⟨w.heap.size, 4, none⟩ (.bool fsp)) = wz at HZZ HLZ HOZ HCZ ⊢
    obtain ⟨u0, u1, u2, u3, u4⟩ := five_cells HZZ.out
    refine bodyPost_ret (v := .tuple #[flightV fn fa fb (.slice fvA fl.length fvc) fsp, .int .i64 0]) ?_ rfl (.inr ⟨i, hi, by rw [← HF.out]; exact HNU.out, by rw [← HF.out], NV, HLZ.out, by rw [HNV.out, HV.out]; rfl, by rw [← HF.out]; exact HOZ.out, HCZ.out⟩)
    simp [results, Try.results36, go_sem, u0, u1, u2, u3, u4, flightV]

def DropIs (base g : Nat) (nodes most next : Int) (v : Value) (fs : List FlightR) (k : Int) (w : World) (e : Ending) (w' : World) : Prop :=
  (e = .returned (.int .i64 160) ∧ (∀ f ∈ fs, f.num ≠ k) ∧ Below w.heap.size w w') ∨
  ∃ (i : Nat) (h : i < fs.length), fs[i].num = k ∧ e = .returned (.int .i64 0) ∧
    ∃ v', LinkAt w' base g nodes most next v' (fs.eraseIdx i) ∧ v'.ownBlock = v.ownBlock ∧ Chg (fun j => j = g ∨ v.ownBlock = some j) w w'

set_option maxRecDepth 100000 in
theorem drop16_any (base g : Nat) (nodes most next : Int) (v : Value) (fs : List FlightR) (k : Int) (w : World) (hL : LinkAt w base g nodes most next v fs) (hn : fs.length ≤ 1048577) (hs : ∀ i j (hi : i < fs.length) (hj : j < fs.length), i < j → fs[i].num < fs[j].num) :
    Calls Try.prog 20 #[.pointer (some ⟨g, 0, none⟩), .int .i64 k] w (DropIs base g nodes most next v fs k w) := by
  have HD := Lib.hid (deliver16_any base g nodes most next v fs k w hL hn hs)
  clear hL hs
  go_enter Try.func20, Try.ntmps20
  go_wp2_with (fail)
  refine HD.out.mono ?_
  rintro e w2 (⟨rfl, hno, hb2⟩ | ⟨i, hi, hnum, rfl, v', hL', hat, hov, hch⟩)
  · have HNO := Lib.hid hno
    have HB := Lib.hid hb2
    clear hno hb2
    unfold flightV
    go_wp2
    go_ret
    exact .inl ⟨rfl, HNO.out, HB.out.alloc HB.out.size _⟩
  · obtain ⟨F, hF⟩ : ∃ F, F = fs[i]'hi := ⟨_, rfl⟩
    rw [← hF] at hnum hov ⊢
    obtain ⟨fn, fa, fb, fl, fsp, fv⟩ := F
    obtain ⟨_, fvA, fvc, hfv, _, _, _, _⟩ := own_bytes hov
    simp only at hfv
    obtain rfl := hfv
    have HNU := Lib.hid hnum
    have HF := Lib.hid hF
    have HL' := Lib.hid hL'
    have HAT := Lib.hid hat
    have HCH := Lib.hid hch
    clear hnum hF hL' hat hch hov
    unfold flightV
    go_wp2
    all_goals
      go_ret
      refine .inr ⟨i, hi, by rw [← HF.out]; exact HNU.out, rfl, v', HL'.out.kept ((Below.refl _ _).alloc (Nat.le_refl _) _), HAT.out, HCH.out.alloc _⟩
end Go.Proofs.Ytejlpdcoaejciaa
