/- Scan, by its contract. -/
import Derived.Test.YtooagpjfcnpheaaDoorEqAll
import Derived.Test.YtooagpjfcnpheaaDoorScanLaw
import Derived.Test.YtooagpjfcnpheaaDoorFrameOpen
namespace Go.Proofs.YtooagpjfcnpheaaDoor
open Go.RowKit

theorem whole_n (A : Option Addr) (n c : Nat) (l : List UInt8) (w : World) (hl : BytesAt w A l) (hlc : l.length ≤ c) (hn : l.length ≤ 4611686018427387904) (ht : TableAt w) (e : n = l.length) :
    Calls Tryd.prog 34 #[.slice A n c] w (EndsIs l w) := by subst e; exact whole_any A c l w hl hlc hn ht
theorem bytessinfo : (Tryd.prog.info? 22).map (fun i => (i.zero, i.size, i.bytes)) = some (some (.slice none 0 0), 1, 24) := by kernel_rfl

/-- What 'Scan' answers. -/
def ScanIs (l : List UInt8) (w : World) (e : Ending) (w' : World) : Prop :=
  ∃ v, e = .returned (.tuple #[v, .int .i64 ((scan l).2.1 : Int), .int .i64 ((scan l).2.2 : Int)]) ∧ OwnRows w' w.heap.size 22 v (scan l).1 ∧ Below w.heap.size w w'

/-- How far Scan has come. -/
def Scanned (l : List UInt8) (outs : List (List UInt8)) (a : Nat) : Prop := scan l = (outs ++ (scan (l.drop a)).1, a + (scan (l.drop a)).2.1, (scan (l.drop a)).2.2)
theorem Scanned.zero (l : List UInt8) : Scanned l [] 0 := by simp [Scanned]
theorem Scanned.step {l : List UInt8} {outs : List (List UInt8)} {a : Nat} (h : Scanned l outs a) (he : (ends (l.drop a)).2 = 0) : Scanned l (outs ++ [body (l.drop a)]) (a + (ends (l.drop a)).1) := by
  unfold Scanned at h ⊢
  rw [h, scan_good he, List.drop_drop]
  simp [Nat.add_assoc]
theorem Scanned.bad {l : List UInt8} {outs : List (List UInt8)} {a : Nat} (h : Scanned l outs a) (ha : a < l.length) (he : (ends (l.drop a)).2 ≠ 0) : scan l = (outs, a, (ends (l.drop a)).2) := by
  unfold Scanned at h
  rw [h, scan_bad (by intro h0; have := congrArg List.length h0; simp at this; omega) he]
  simp
theorem Scanned.done {l : List UInt8} {outs : List (List UInt8)} (h : Scanned l outs l.length) : scan l = (outs, l.length, 0) := by
  unfold Scanned at h
  rw [h, List.drop_length, scan_nil]
  simp

/-- An element more. -/
theorem rows_snoc {w : World} {xs : List Value} {ls : List (List UInt8)} {v : Value} {l : List UInt8} (hl : xs.length = ls.length) (h : ∀ i x, xs[i]? = some x → IsBytes w x (ls.getD i [])) (hv : IsBytes w v l) :
    ∀ i x, (xs ++ [v])[i]? = some x → IsBytes w x ((ls ++ [l]).getD i []) := by
  intro i x hx
  by_cases hi : i < xs.length
  · rw [List.getElem?_append_left hi] at hx
    rw [List.getD_eq_getElem?_getD, List.getElem?_append_left (by omega), ← List.getD_eq_getElem?_getD]
    exact h i x hx
  · have : i < (xs ++ [v]).length := (List.getElem?_eq_some_iff.1 hx).1
    rw [List.length_append, List.length_singleton] at this
    obtain rfl : i = xs.length := by omega
    rw [List.getElem?_append_right (Nat.le_refl _), Nat.sub_self] at hx
    rw [List.getD_eq_getElem?_getD, List.getElem?_append_right (by omega), hl, Nat.sub_self]
    cases hx
    exact hv

set_option maxHeartbeats 1600000 in
set_option maxRecDepth 100000 in
theorem scan_any (A : Option Addr) (c : Nat) (l : List UInt8) (w : World) (hl : BytesAt w A l) (hA : A = none → c = 0) (hlc : l.length ≤ c) (hn : l.length ≤ 1099511627776) (ht : TableAt w) :
    Calls Tryd.prog 18 #[.slice A l.length c] w (ScanIs l w) := by
  have HL := Lib.hid hl
  have HA := Lib.hid hA
  have HI := Lib.hid u8info
  have HII := Lib.hid bytessinfo
  have HT := Lib.hid ht
  clear hl hA ht
  go_enter Tryd.func18, Tryd.ntmps18
  go_wp2_with (at_builtin; refine Hid.out ?_)
  refine Lib.hid ?_
  refine wpList_append_src _ rfl _ _ 22 rfl w.heap.size 5 _ 1 1 Tryd.underlying22 HI.out rfl (by omega) (.slice none 0 0) 0 [] rfl ⟨rfl, .inl ⟨rfl, rfl⟩⟩ A l.length c (vals l) rfl (by rw [vals_length]; omega) (fun h => by have := HA.out h; omega) (bytes_news HL.out) (vals_one l) (by unfold maxLen; omega) (by omega) (Nat.le_refl _) ?_
  intro v1 w1 hown hgrow _
  rw [List.nil_append, Nat.zero_add] at hown
  have HB1 := Lib.hid ((Below.refl w.heap.size w).grown hgrow (Nat.le_refl _) (fun k hk => by simp [Value.ownBlock] at hk))
  obtain ⟨_, A1, c1, rfl, hB1, hA1, hlc1, hc63⟩ := own_bytes hown
  have T1 := Lib.hid (HT.out.below HB1.out)
  have L1 := Lib.hid hB1
  clear hown hgrow hB1
  go_wp2
  go_loopw [6, 7] (fun v at' wr => ∃ (outs : List (List UInt8)) (a : Nat) (xs : List Value), a ≤ l.length ∧ at' = .int .i64 (a : Int) ∧ Scanned l outs a ∧ wr.ownsRow w1.heap.size 22 1 v outs.length xs ∧ (∀ i x, xs[i]? = some x → IsBytes w1 x (outs.getD i [])) ∧ outs.length ≤ a ∧ Below w1.heap.size w1 wr)
    (fun _ at' _ => l.length - (intOf at').toNat)
  case atStart => exact ⟨[], 0, [], Nat.zero_le _, rfl, Scanned.zero l, ⟨rfl, .inl ⟨rfl, rfl⟩⟩, fun i x h => by simp at h, Nat.le_refl _, Below.refl _ _⟩
  case round =>
    obtain ⟨outs, a, xs, ha, rfl, hsc, hown, hxs, hoa, hb⟩ := hrel
    obtain ⟨n, hn'⟩ : ∃ n, n = l.length := ⟨_, rfl⟩
    have HO := Lib.hid hown
    have HX := Lib.hid hxs
    have HS := Lib.hid hsc
    have HB := Lib.hid hb
    clear hown hxs hsc hb
    by_cases hlt : a < l.length
    · obtain ⟨ga, oa, rfl, hga, _⟩ := L1.out a hlt
      obtain ⟨x, hx⟩ : ∃ x, x = (ends (l.drop a)).2 := ⟨_, rfl⟩
      obtain ⟨y, hy⟩ : ∃ y, y = (ends (l.drop a)).1 := ⟨_, rfl⟩
      have HXX := Lib.hid hx
      have HYY := Lib.hid hy
      have HW := Lib.hid (whole_n (some ⟨ga, oa + a, none⟩) (l.length - a) (c1 - a) (l.drop a) wr ((L1.out.drop a).below HB.out) (by rw [List.length_drop]; omega) (by rw [List.length_drop]; omega) (T1.out.below HB.out) (by rw [List.length_drop]))
      clear hx hy
      have hac : ¬ c1 = a := by omega
      go_wp2_with (fail)
      refine HW.out.mono ?_
      rintro e w2 ⟨rfl, hb2⟩
      rw [← HXX.out, ← HYY.out]
      have HB2 := Lib.hid (HB.out.trans (hb2.mono HB.out.size))
      have HO2 := Lib.hid (own_kept HO.out hb2)
      clear hb2
      by_cases hx : x = 0
      · have he : (ends (l.drop a)).2 = 0 := by rw [← HXX.out]; exact hx
        obtain ⟨p1, p2, p3⟩ := ends_pos he
        obtain ⟨k, hk⟩ : ∃ k, k = (body (l.drop a)).length := ⟨_, rfl⟩
        rw [← hk] at p1 p2 p3
        rw [← HYY.out] at p1
        rw [List.length_drop] at p2
        have hx0 : ((x : Int) != 0) = false := by rw [hx]; rfl
        have hy1 : IntKind.i64.wrap ((a : Int) + (y : Int)) = ((a + y : Nat) : Int) := by rw [IntKind.wrap_i64]; omega
        have hy2 : IntKind.i64.wrap ((a : Int) + 12) = ((a + 12 : Nat) : Int) := by rw [IntKind.wrap_i64]; omega
        have HK := Lib.hid hk
        have HE := Lib.hid he
        clear hk he
        by_cases hk0 : k = 0
        · subst hk0
          go_wp2_with (at_builtin; refine Hid.out ?_)
          refine Lib.hid ?_
          have hbb : IsBytes w1 (.slice (some ⟨ga, oa, none⟩) 0 0) (body (l.drop a)) := by
            rw [List.eq_nil_of_length_eq_zero HK.out.symm]
            exact ⟨_, 0, rfl, BytesAt.nil _ _, (fun h => by cases h), Nat.le_refl _, by omega⟩
          refine wpList_append_at _ rfl _ _ 32 rfl w1.heap.size 22 _ 1 24 Tryd.underlying32 HII.out rfl (by omega) u6 outs.length xs rfl (own_kept HO2.out ((Below.refl _ _).alloc (Nat.le_refl _) _)) ⟨w2.heap.size, 0, none⟩ 1 1 [.slice (some ⟨ga, oa, none⟩) 0 0] rfl rfl (World.news_of_block (cs := #[.slice (some ⟨ga, oa, none⟩) 0 0]) (t := 22) (fr := (0, 0)) (heap_alloc_new w2 _)) (by simp [Value.oneCell']) (by unfold maxLen; omega) (by omega) (by have := HB2.out.size; simp; omega) ?_
          intro v3 w3 hown3 hgrow3 _
          have HO3 := Lib.hid hown3
          have HB3 := Lib.hid ((HB2.out.alloc HB2.out.size _).grown hgrow3 (by have := HB2.out.size; simp; omega) (fun q hq => own_base' HO.out q hq))
          have HBB := Lib.hid hbb
          clear hown3 hgrow3 hbb
          go_wp2
          go_roundw
          case rel =>
            refine ⟨outs ++ [body (l.drop a)], a + y, _, by omega, by go_num, ?_, ?_, rows_snoc (by have := HO.out.1; omega) HX.out HBB.out, ?_, HB3.out⟩
            · rw [HYY.out]; exact HS.out.step HE.out
            · rw [List.length_append]; exact HO3.out
            · rw [List.length_append, List.length_singleton]; omega
          case measure => simp [intOf]; omega
        · have hkk : ¬ a + (12 + k) = a + 12 := by omega
          go_wp2_with (at_builtin; refine Hid.out ?_)
          rw [show a + (12 + k) - (a + 12) = k by omega]
          refine Lib.hid ?_
          have hbb : IsBytes w1 (.slice (some ⟨ga, oa + (a + 12), none⟩) k k) (body (l.drop a)) := by
            refine ⟨_, k, by rw [← HK.out], ?_, (fun h => by cases h), by rw [← HK.out]; exact Nat.le_refl _, by omega⟩
            unfold body
            rw [List.drop_drop]
            exact (L1.out.drop (a + 12)).take _
          refine wpList_append_at _ rfl _ _ 32 rfl w1.heap.size 22 _ 1 24 Tryd.underlying32 HII.out rfl (by omega) u6 outs.length xs rfl (own_kept HO2.out ((Below.refl _ _).alloc (Nat.le_refl _) _)) ⟨w2.heap.size, 0, none⟩ 1 1 [.slice (some ⟨ga, oa + (a + 12), none⟩) k k] rfl rfl (World.news_of_block (cs := #[.slice (some ⟨ga, oa + (a + 12), none⟩) k k]) (t := 22) (fr := (0, 0)) (heap_alloc_new w2 _)) (by simp [Value.oneCell']) (by unfold maxLen; omega) (by omega) (by have := HB2.out.size; simp; omega) ?_
          intro v3 w3 hown3 hgrow3 _
          have HO3 := Lib.hid hown3
          have HB3 := Lib.hid ((HB2.out.alloc HB2.out.size _).grown hgrow3 (by have := HB2.out.size; simp; omega) (fun q hq => own_base' HO.out q hq))
          have HBB := Lib.hid hbb
          clear hown3 hgrow3 hbb
          go_wp2
          go_roundw
          case rel =>
            refine ⟨outs ++ [body (l.drop a)], a + y, _, by omega, by go_num, ?_, ?_, rows_snoc (by have := HO.out.1; omega) HX.out HBB.out, ?_, HB3.out⟩
            · rw [HYY.out]; exact HS.out.step HE.out
            · rw [List.length_append]; exact HO3.out
            · rw [List.length_append, List.length_singleton]; omega
          case measure => simp [intOf]; omega
      · have hx0 : ((x : Int) != 0) = true := by rw [bne_iff_ne]; omega
        go_wp2
        go_ret3
        have hd := HS.out.bad hlt (by rw [← HXX.out]; exact hx)
        rw [← HXX.out] at hd
        refine ⟨_, by rw [hd]; rfl, ⟨xs, ?_, fun i z hz => ?_⟩, HB1.out.trans (HB2.out.mono HB1.out.size)⟩
        · rw [hd]; exact World.ownsRow.mono HO2.out HB1.out.size
        · rw [hd]; exact (HX.out i z hz).below HB2.out
    · obtain rfl : a = l.length := by omega
      go_wp2
      go_ret3
      have hd := HS.out.done
      refine ⟨_, by rw [hd]; rfl, ⟨xs, ?_, fun i z hz => ?_⟩, HB1.out.trans (HB.out.mono HB1.out.size)⟩
      · rw [hd]; exact World.ownsRow.mono HO.out HB1.out.size
      · rw [hd]; exact (HX.out i z hz).below HB.out
end Go.Proofs.YtooagpjfcnpheaaDoor
