/- fed, by its contract: however the bytes are cut, it is what one piece gives. -/
import Derived.Test.YtooagpjfcnpheaaDoorFrameFeed
import Derived.Test.YtooagpjfcnpheaaDoorInts
namespace Go.Proofs.YtooagpjfcnpheaaDoor
open Go.RowKit

theorem framesB_count (ps : List (List UInt8)) : 12 * ps.length ≤ (framesB ps).length := by
  induction ps with
  | nil => simp
  | cons p ps ih => rw [framesB_cons, List.length_append, frameB_length, List.length_cons]; omega
theorem cutS_few (l : List UInt8) : 12 * (cutS l).1.length + (cutS l).2.1 + (cutS l).2.2.length ≤ l.length := by
  have h1 := framesB_count (cutS l).1
  have h2 := cutS_count l.length l (Nat.le_refl _)
  omega

/-- What 'fed' answers. -/
def FedIs (l : List UInt8) (w : World) (e : Ending) (w' : World) : Prop :=
  ∃ (v hv : Value) (g : Nat), e = .returned (.tuple #[v, .pointer (some ⟨g, 0, none⟩), .bool true]) ∧ OwnRows w' w.heap.size 22 v (cutS l).1 ∧ SplitAt w' w.heap.size g hv (cutS l).2.2 (cutS l).2.1 ∧ Below w.heap.size w w'

theorem rows_news {w : World} {base : Nat} {e : TypeId} {A : Option Addr} {n c : Nat} {xs : List Value} (h : w.ownsRow base e 1 (.slice A n c) n xs) : ∀ ad, A = some ad → ∀ j u, xs[j]? = some u → w.cell? (ad.add j) = some u := by
  rcases h.2 with ⟨h0, _⟩ | ⟨g, cap, cur, h0, _⟩
  · simp only [Value.slice.injEq] at h0
    intro ad hA
    rw [h0.1] at hA
    cases hA
  · simp only [Value.slice.injEq] at h0
    intro ad hA j u hu
    have hAg := h0.1
    rw [hA] at hAg
    cases hAg
    exact h.cells (by rw [hA]; rfl) j u hu
theorem OwnAll.one' {w : World} {base : Nat} {e : TypeId} {xs : List Value} {ls : List (List UInt8)} (h : OwnAll w base e xs ls) : ∀ u ∈ xs, u.oneCell' = true := by
  intro u hu
  obtain ⟨i, hi, rfl⟩ := List.mem_iff_getElem.1 hu
  obtain ⟨_, A, c, h1, _⟩ := own_bytes (h.2.1 i _ (List.getElem?_eq_getElem hi))
  rw [h1]; rfl

theorem SplitAt.kept {w w' : World} {base g : Nat} {hv : Value} {held : List UInt8} {lost : Nat} (h : SplitAt w base g hv held lost) (hb : Below w.heap.size w w') : SplitAt w' base g hv held lost :=
  ⟨(hb.block g h.lt).trans h.1, h.2.1, own_kept h.2.2 hb⟩
theorem SplitAt.mono {w : World} {base base' g : Nat} {hv : Value} {held : List UInt8} {lost : Nat} (h : SplitAt w base g hv held lost) (hb : base' ≤ base) : SplitAt w base' g hv held lost :=
  ⟨h.1, Nat.le_trans hb h.2.1, World.ownsRow.mono h.2.2 hb⟩
theorem SplitAt.grown {w w' : World} {base base' g size n : Nat} {e : TypeId} {hv v : Value} {held : List UInt8} {lost : Nat} {xs : List Value} (h : SplitAt w base g hv held lost) (ho : w.ownsRow base' e size v n xs) (he : e ≠ 83) (ha : Apart hv v) (hg : w.grownBy w' v.ownBlock) : SplitAt w' base g hv held lost :=
  ⟨(hg.block g h.lt (fun c => own_ne ho h.1 he c.symm)).trans h.1, h.2.1, own_chg h.2.2 (grown_chg hg) (fun k hk e => ha.ne k hk e)⟩
theorem own_any_shape {w : World} {base : Nat} {e : TypeId} {size n : Nat} {v : Value} {xs : List Value} (h : w.ownsRow base e size v n xs) : ∃ A c, v = .slice A n c ∧ (A = none → n = 0) ∧ n ≤ c := by
  rcases h.2 with ⟨rfl, rfl⟩ | ⟨g, cap, cur, rfl, _, _, h1, _⟩
  · exact ⟨none, 0, rfl, fun _ => rfl, Nat.le_refl _⟩
  · exact ⟨_, cap, rfl, (fun h => by cases h), h1⟩
/-- The next piece. -/
theorem cutS_next (l : List UInt8) (a k : Nat) : cutS (l.take (a + k)) = ((cutS (l.take a)).1 ++ (cutS ((cutS (l.take a)).2.2 ++ (l.drop a).take k)).1, (cutS (l.take a)).2.1 + (cutS ((cutS (l.take a)).2.2 ++ (l.drop a).take k)).2.1, (cutS ((cutS (l.take a)).2.2 ++ (l.drop a).take k)).2.2) := by
  rw [List.take_add, cutS_append _ _ _ (Nat.le_refl _)]

set_option maxHeartbeats 1600000 in
set_option maxRecDepth 100000 in
theorem fed_any (A B : Option Addr) (c d : Nat) (l : List UInt8) (cs : List Int) (w : World) (hl : BytesAt w A l) (hA : A = none → c = 0) (hlc : l.length ≤ c) (hn : l.length ≤ 1073741824) (hcs : IntsAt w B cs) (hcm : cs.length ≤ 140737488351232) (ht : TableAt w) (h0 : 0 < w.heap.size) :
    Calls Tryd.prog 26 #[.slice A l.length c, .slice B cs.length d] w (FedIs l w) := by
  have HL := Lib.hid hl
  have HA := Lib.hid hA
  have HI := Lib.hid u8info
  have HII := Lib.hid bytessinfo
  have HT := Lib.hid ht
  have HCS := Lib.hid hcs
  obtain ⟨m, hm⟩ : ∃ m, m = cs.length := ⟨_, rfl⟩
  rw [← hm] at hcm ⊢
  have HM := Lib.hid hm
  clear hl hA ht hcs hm
  go_enter Tryd.func26, Tryd.ntmps26
  go_wp2_with (fail)
  refine (newSplitter_any w).mono ?_
  rintro e w1 ⟨rfl, hs1, hb1⟩
  have HS1 := Lib.hid hs1
  have HB1 := Lib.hid hb1
  clear hs1 hb1
  go_wp2
  go_loopw [8, 9, 10] (fun v at' i' wr => ∃ (a i : Nat) (hv : Value) (xs : List Value), a ≤ l.length ∧ i ≤ 2 * a + 1 ∧ (i % 2 = 1 ∨ i ≤ 2 * a) ∧ at' = .int .i64 (a : Int) ∧ i' = .int .i64 (i : Int) ∧
      wr.ownsRow w.heap.size 22 1 v xs.length xs ∧ OwnAll wr w.heap.size 5 xs (cutS (l.take a)).1 ∧ (∀ x ∈ xs, Apart x v) ∧ (∀ x ∈ xs, Apart x hv) ∧ Apart v hv ∧
      SplitAt wr w.heap.size w.heap.size hv (cutS (l.take a)).2.2 (cutS (l.take a)).2.1 ∧ Below w.heap.size w wr)
    (fun _ at' i' _ => 2 * (l.length - (intOf at').toNat) + (1 - (intOf i').toNat % 2))
  case atStart =>
    refine ⟨0, 0, .slice none 0 0, [], by omega, by omega, by omega, rfl, rfl, ⟨rfl, .inl ⟨rfl, rfl⟩⟩, ?_, fun x h => (by simp at h), fun x h => (by simp at h), Apart.nil _ _ _, ?_, HB1.out⟩
    · rw [List.take_zero, cutS_nil]; exact OwnAll.nil _ _ _
    · rw [List.take_zero, cutS_nil]; exact HS1.out
  case round =>
    obtain ⟨a, i, hv, xs, ha, hi1, hi2, rfl, rfl, hown, hall, hapv, haph, hapr, hsp, hb⟩ := hrel
    have HO := Lib.hid hown
    have HAL := Lib.hid hall
    have HAV := Lib.hid hapv
    have HAH := Lib.hid haph
    have HAR := Lib.hid hapr
    have HSP := Lib.hid hsp
    have HB := Lib.hid hb
    clear hown hall hapv haph hapr hsp hb
    by_cases hlt : a < l.length
    · go_upto_if 28 with (fail)
      go_cut [11] (fun s wx => ∃ k : Nat, s = .int .i64 (k : Int) ∧ (k = 0 → i % 2 = 0) ∧ k ≤ l.length + 64 ∧ wr = wx)
      case first =>
        by_cases hcs0 : m = 0
        · have hci : ¬ (0 : Int) < (m : Int) := by omega
          clear hcs0
          go_wp2
          go_meet
          exact ⟨l.length - a, by congr 1; omega, by omega, by omega, rfl⟩
        · have hci : (0 : Int) < (m : Int) := by omega
          obtain ⟨j, hj⟩ : ∃ j, j = i % m := ⟨_, rfl⟩
          have hjl : j < m := by rw [hj]; exact Nat.mod_lt _ (by omega)
          obtain ⟨b, o, rfl, hb1, q0⟩ := HCS.out j (by rw [← HM.out]; exact hjl)
          have q1 := (HB.out.cell (p := ⟨b, o + j, none⟩) hb1).trans q0
          have hjr : (i : Int).tmod (m : Int) = (j : Int) := by rw [Int.tmod_eq_emod_of_nonneg (by omega), hj]; omega
          obtain ⟨z, hz⟩ : ∃ z, z = cs.getD j 0 := ⟨_, rfl⟩
          rw [← hz] at q1
          obtain ⟨k, hk⟩ : ∃ k : Nat, (k : Int) = z % 64 := ⟨(z % 64).toNat, by omega⟩
          have hk64 : k < 64 := by omega
          have j0 : (0 : Int) ≤ (j : Int) := by omega
          have j1 : (j : Int) < (m : Int) := by omega
          have HK := Lib.hid hk
          have HJ := Lib.hid hj
          clear hk hj hz q0
          go_wp2_with (fail)
          refine (rest_any z 64 wr (by omega) (by omega)).mono ?_
          rintro e w2 ⟨rfl, rfl⟩
          rw [← HK.out]
          by_cases hk0 : k = 0
          · have hke : ((k : Int) == 0) = true := by rw [hk0]; rfl
            by_cases hp : i % 2 = 1
            · have hpe : ((i : Int) % 2 == 1) = true := by rw [beq_iff_eq]; omega
              clear hk0 hp
              go_wp2
              go_meet
              exact ⟨1, rfl, fun h => by omega, by omega, rfl⟩
            · have hpe : ((i : Int) % 2 == 1) = false := by rw [beq_eq_false_iff_ne]; omega
              have HP := Lib.hid hp
              clear hk0 hp
              go_wp2
              go_meet
              exact ⟨k, rfl, fun _ => by have := HP.out; omega, by omega, rfl⟩
          · have hke : ((k : Int) == 0) = false := by rw [beq_eq_false_iff_ne]; omega
            go_wp2
            go_meet
            exact ⟨k, rfl, fun h => absurd h hk0, by omega, rfl⟩
      case rest =>
        obtain ⟨k, rfl, hk0, hk1, rfl⟩ := hcut
        have HK0 := Lib.hid hk0
        clear hk0
        go_upto_if 49 with (fail)
        go_cut [11] (fun s wx => ∃ k : Nat, s = .int .i64 (k : Int) ∧ (k = 0 → i % 2 = 0) ∧ a + k ≤ l.length ∧ wr = wx)
        case first =>
          by_cases hgt : l.length - a < k
          · have hgi : (l.length : Int) - (a : Int) < (k : Int) := by omega
            go_wp2
            go_meet
            exact ⟨l.length - a, by congr 1; omega, fun h => by omega, by omega, rfl⟩
          · have hgi : ¬ (l.length : Int) - (a : Int) < (k : Int) := by omega
            go_wp2
            go_meet
            exact ⟨k, rfl, HK0.out, by omega, rfl⟩
        case rest =>
          obtain ⟨k, rfl, hk0, hk1, rfl⟩ := hcut
          have HK0 := Lib.hid hk0
          clear hk0
          obtain ⟨b, o, rfl, hbw, _⟩ := HL.out a hlt
          obtain ⟨p, hp⟩ : ∃ p, p = (l.drop a).take k := ⟨_, rfl⟩
          have hpl : k = p.length := by rw [hp, List.length_take, List.length_drop]; omega
          have hpb : BytesAt wr (some ⟨b, o + a, none⟩) p := by rw [hp]; exact ((HL.out.drop a).take k).below HB.out
          have HP := Lib.hid hp
          have HPL := Lib.hid hpl
          have HPB := Lib.hid hpb
          have hac : ¬ c = a := by omega
          have h1 : (a : Int) + (k : Int) ≤ (c : Int) := by omega
          have hwa : IntKind.i64.wrap ((a : Int) + (k : Int)) = ((a + k : Nat) : Int) := by rw [IntKind.wrap_i64]; omega
          clear hp hpl hpb
          go_wp2_with (fail)
          refine (copied_n (some ⟨b, o + a, none⟩) k (c - a) p wr HPB.out (fun h => by cases h) (by rw [← HPL.out]; omega) (by rw [← HPL.out]; omega) HPL.out).mono ?_
          rintro e w2 ⟨v2, rfl, ho2, hb2⟩
          obtain ⟨_, A2, c2, rfl, hB2, hA2, hc2, _⟩ := own_bytes ho2
          obtain ⟨q, hq⟩ : ∃ q, q = cutS (l.take a) := ⟨_, rfl⟩
          have hq1 : q.1.length = xs.length := by rw [hq]; exact HAL.out.1.symm
          have hfew := cutS_few (l.take a)
          rw [← hq, List.length_take] at hfew
          have hnx := cutS_next l a k
          rw [← hq, ← HP.out] at hnx
          have S2 := Lib.hid (HSP.out.kept hb2)
          have AL2 := Lib.hid (HAL.out.kept hb2)
          rw [← hq] at S2 AL2
          have O2 := Lib.hid (own_kept HO.out hb2)
          have B2 := Lib.hid (HB.out.trans (hb2.mono HB.out.size))
          have HFD := Lib.hid (feed_any A2 c2 w.heap.size w.heap.size hv q.2.2 p q.2.1 w2 S2.out hB2 hA2 hc2 h0 (by rw [← HPL.out]; omega) (by omega) B2.out.size (HT.out.below B2.out))
          obtain ⟨r, hr⟩ : ∃ r, r = cutS (q.2.2 ++ p) := ⟨_, rfl⟩
          have hfewr := cutS_few (q.2.2 ++ p)
          have hheld := (cutS_held (q.2.2 ++ p).length (q.2.2 ++ p) (Nat.le_refl _)).2
          rw [← hr] at hfewr hheld hnx
          rw [List.length_append, ← HPL.out] at hfewr
          have HQ := Lib.hid hq
          have HR := Lib.hid hr
          have HNX := Lib.hid hnx
          have h01 := HP
          clear ho2 hb2 hB2 hA2 hq hr hnx h01
          go_wp2_with (fail)
          refine HFD.out.mono ?_
          rintro e w4 ⟨v4, hv', ys, rfl, ho4, hall4, hyv4, hyh4, hvh4, hsp4, hhv4, hch4⟩
          rw [← HR.out] at hall4 hsp4
          obtain ⟨A4, c4, rfl, hA4, hc4⟩ := own_any_shape ho4
          have HYL := Lib.hid hall4.1
          have hS : ∀ (z : Value) (k : Nat), z.ownBlock ≠ some w.heap.size → Apart z hv → z.ownBlock = some k → ¬ (k = w.heap.size ∨ hv.ownBlock = some k) := by
            rintro z k h1 h2 h3 (h4 | h4)
            · exact h1 (by rw [h3, h4])
            · exact h2.ne k h3 h4
          have hxg : ∀ x ∈ xs, x.ownBlock ≠ some w.heap.size := fun x hx => by
            obtain ⟨i, hi, rfl⟩ := List.mem_iff_getElem.1 hx
            exact own_ne (AL2.out.2.1 i _ (List.getElem?_eq_getElem hi)) S2.out.1 (by decide)
          have O4 := Lib.hid (own_chg O2.out hch4 (fun k hk => hS u8 k (own_ne O2.out S2.out.1 (by decide)) HAR.out hk))
          have AL4 := Lib.hid (AL2.out.chg hch4 (fun x hx k hk => hS x k (hxg x hx) (HAH.out x hx) hk))
          have B4 := Lib.hid (B2.out.trans (hch4.toBelow B2.out.size (fun k hk => by
            rcases hk with h | h
            · omega
            · exact (S2.out.2.2.lt k h).1)))
          have YU := Lib.hid (fun y (hy : y ∈ ys) => (Apart.fresh O2.out (v := y) (fun k hk => (hall4.lt y hy k hk).1)).symm)
          have XY := Lib.hid (fun x (hx : x ∈ xs) y (hy : y ∈ ys) => Apart.freshAll AL2.out (v := y) (fun k hk => (hall4.lt y hy k hk).1) x hx)
          have XH := Lib.hid (Apart.freshAll AL2.out (v := hv') hhv4)
          have UH := Lib.hid (Apart.fresh O2.out (v := hv') hhv4)
          have YA := Lib.hid hall4
          have YH := Lib.hid hyh4
          have S4 := Lib.hid hsp4
          have O4' := Lib.hid ho4
          clear ho4 hall4 hyv4 hyh4 hvh4 hsp4 hhv4 hch4 hS hxg
          go_wp2_with (at_builtin; refine Hid.out ?_)
          refine Lib.hid ?_
          refine wpList_append_src _ rfl _ _ 32 rfl w.heap.size 22 _ 1 24 Tryd.underlying32 HII.out rfl (by omega) u8 xs.length xs rfl O4.out A4 ys.length c4 ys rfl (by omega) hA4 (rows_news O4'.out) YA.out.one' (by have := HYL.out; unfold maxLen; omega) (by have := HYL.out; omega) B4.out.size ?_
          intro v5 w5 hown5 hgrow5 hat5
          have S5 := Lib.hid (S4.out.grown O4.out (by decide) UH.out.symm hgrow5)
          have B5 := Lib.hid (B4.out.grown hgrow5 B4.out.size (fun k hk => (O4.out.lt k hk).1))
          have hal5 := (AL4.out.chg (grown_chg hgrow5) (fun x hx k hk e => (HAV.out x hx).ne k hk e)).append ((YA.out.chg (grown_chg hgrow5) (fun y hy k hk e => (YU.out y hy).ne k hk e)).mono B2.out.size) XY.out
          have hv5 : ∀ z ∈ xs ++ ys, Apart z v5 := by
            intro z hz
            rcases List.mem_append.1 hz with h | h
            · obtain ⟨i, hi, rfl⟩ := List.mem_iff_getElem.1 h
              exact (HAV.out _ h).grown (AL4.out.2.1 i _ (List.getElem?_eq_getElem hi)) (Nat.le_refl _) hat5
            · obtain ⟨i, hi, rfl⟩ := List.mem_iff_getElem.1 h
              exact (YU.out _ h).grown (YA.out.2.1 i _ (List.getElem?_eq_getElem hi)) (Nat.le_refl _) hat5
          have hh5 : ∀ z ∈ xs ++ ys, Apart z hv' := by
            intro z hz
            rcases List.mem_append.1 hz with h | h
            · exact XH.out z h
            · exact YH.out z h
          have VH5 := Lib.hid (UH.out.symm.grown S4.out.2.2 (Nat.le_refl _) hat5).symm
          have AL5 := Lib.hid hal5
          have V5 := Lib.hid hv5
          have H5 := Lib.hid hh5
          have O5 := Lib.hid hown5
          have HH := Lib.hid (held_any w5 _ _ _ _ _ S5.out)
          have HLO := Lib.hid (lost_any w5 _ _ _ _ _ S5.out)
          obtain ⟨hn5, hhn⟩ : ∃ n, n = r.2.2.length := ⟨_, rfl⟩
          obtain ⟨lo5, hlo5⟩ : ∃ n, n = q.2.1 + r.2.1 := ⟨_, rfl⟩
          rw [← hhn] at HH hheld
          rw [← hlo5] at HLO
          have k1 : decide ((hn5 : Int) < 0) = false := decide_eq_false (by omega)
          have k2 : decide ((131084 : Int) ≤ (hn5 : Int)) = false := decide_eq_false (by omega)
          have k3 : decide ((lo5 : Int) < 0) = false := decide_eq_false (by omega)
          have HI2 := Lib.hid hi2
          have HI1 := Lib.hid hi1
          have hi3 : i ≤ 4294967296 := by omega
          clear hown5 hgrow5 hat5 hhn hlo5 hal5 hv5 hh5 hfew hfewr hq1 hheld hi2 hi1 hA4 hwa h1
          go_wp2_with (fail)
          refine HH.out.mono ?_
          rintro e w6 ⟨rfl, rfl⟩
          go_wp2_with (fail)
          refine HH.out.mono ?_
          rintro e w6 ⟨rfl, rfl⟩
          go_wp2_with (fail)
          refine HLO.out.mono ?_
          rintro e w6 ⟨rfl, rfl⟩
          go_wp2
          go_roundw
          case rel =>
            refine ⟨a + k, i + 1, hv', xs ++ ys, hk1, ?_, ?_, by go_num, by go_num, ?_, ?_, V5.out, H5.out, VH5.out, ?_, B5.out⟩
            · have := HI2.out
              have := HI1.out
              rcases Nat.eq_zero_or_pos k with h | h
              · have := HK0.out h; omega
              · omega
            · have := HI2.out
              have := HI1.out
              rcases Nat.eq_zero_or_pos k with h | h
              · have := HK0.out h; omega
              · omega
            · rw [List.length_append]; exact O5.out
            · rw [HNX.out]; exact AL5.out
            · rw [HNX.out]; exact S5.out
          case measure =>
            have := HK0.out
            simp [intOf]
            omega
    · obtain rfl : a = l.length := by omega
      have htl : l.take l.length = l := List.take_length
      go_wp2
      go_ret3
      refine ⟨_, hv, w.heap.size, rfl, ⟨xs, ?_, ?_⟩, ?_, HB.out⟩
      · have := HAL.out.1
        rw [htl] at this
        rw [← this]; exact HO.out
      · have := HAL.out.isBytes
        rw [htl] at this
        exact this
      · have := HSP.out
        rw [htl] at this
        exact this
end Go.Proofs.YtooagpjfcnpheaaDoor
