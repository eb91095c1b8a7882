/- Eq, Wrap, by their contracts. -/
import Derived.Test.YtooagpjfcnpheaaDoorFlipped
import Derived.Test.YtooagpjfcnpheaaDoorEndsLaw
import Derived.OwnWalk
import Derived.Deep.Onto
namespace Go.Proofs.YtooagpjfcnpheaaDoor
open Go.RowKit

set_option maxHeartbeats 400000 in
set_option maxRecDepth 100000 in
theorem eq_any (A B : Option Addr) (c d : Nat) (l m : List UInt8) (w : World) (hl : BytesAt w A l) (hm : BytesAt w B m) (hn : l.length ≤ 140737488351232) :
    Calls Tryd.prog 23 #[.slice A l.length c, .slice B m.length d] w fun e w' => e = .returned (.bool (decide (l = m))) ∧ Below w.heap.size w w' := by
  by_cases hlen : l.length = m.length
  · go_enter Tryd.func23, Tryd.ntmps23
    have HE := Lib.hid hlen
    have hle : ((l.length : Int) != (m.length : Int)) = false := by simp; omega
    clear hlen
    go_wp2
    go_loopw [5] (fun i wr => ∃ k : Nat, k ≤ l.length ∧ i = .int .i64 k ∧ l.take k = m.take k ∧ Below w.heap.size w wr) (fun i _ => l.length - (intOf i).toNat)
    case atStart => exact ⟨0, Nat.zero_le _, rfl, by simp, Below.refl _ _⟩
    case round =>
      obtain ⟨k, hk, rfl, ht, hb⟩ := hrel
      by_cases hlt : k < l.length
      · have hltm : k < m.length := by have := HE.out; omega
        obtain ⟨b, o, rfl, hb1, q0⟩ := hl k hlt
        obtain ⟨b', o', rfl, hb2, q1⟩ := hm k hltm
        obtain ⟨x, hx⟩ : ∃ x, x = l.getD k 0 := ⟨_, rfl⟩
        obtain ⟨y, hy⟩ : ∃ y, y = m.getD k 0 := ⟨_, rfl⟩
        rw [← hx] at q0
        rw [← hy] at q1
        have e0 := (hb.cell (p := ⟨b, o + k, none⟩) hb1).trans q0
        have e1 := (hb.cell (p := ⟨b', o' + k, none⟩) hb2).trans q1
        have hx' : l[k] = x := by rw [hx]; simp [List.getD, hlt]
        have hy' : m[k] = y := by rw [hy]; simp [List.getD, hltm]
        have i0 : (0 : Int) ≤ (k : Int) := by omega
        have i1 : (k : Int) < (l.length : Int) := by omega
        have i2 : (k : Int) < (m.length : Int) := by omega
        have HX := Lib.hid hx'
        have HY := Lib.hid hy'
        have HT := Lib.hid ht
        have HB := Lib.hid hb
        clear hx hy hx' hy' q0 q1 hl hm ht hb
        by_cases hxy : x = y
        · have hne : ((x.toNat : Int) != (y.toNat : Int)) = false := by simp [hxy]
          have HXY := Lib.hid hxy
          clear hxy
          go_wp2
          go_quiet (fail)
          go_wp2
          go_roundw
          case rel =>
            refine ⟨k + 1, by omega, by go_num, ?_, Below.drewN' HB.out _⟩
            rw [List.take_succ_eq_append_getElem hlt, List.take_succ_eq_append_getElem hltm, HT.out, HX.out, HY.out, HXY.out]
          case measure => simp [intOf]; omega
        · have hne : ((x.toNat : Int) != (y.toNat : Int)) = true := by
            rw [bne_iff_ne]; intro h; exact hxy (UInt8.toNat.inj (by omega))
          have HXY := Lib.hid hxy
          clear hxy
          go_wp2
          go_quiet (fail)
          go_wp2
          go_ret
          refine ⟨congrArg (fun b => Ending.returned (.bool b)) (decide_eq_false ?_).symm, Below.drewN' HB.out _⟩
          intro h
          apply HXY.out
          rw [← HX.out, ← HY.out]
          simp [h]
      · obtain rfl : k = l.length := by omega
        have HT := Lib.hid ht
        have HB := Lib.hid hb
        clear ht hb hl hm
        go_wp2
        go_ret
        refine ⟨congrArg (fun b => Ending.returned (.bool b)) (decide_eq_true ?_).symm, HB.out⟩
        have := HT.out
        rwa [List.take_length, HE.out, List.take_length] at this
  · have hle : ((l.length : Int) != (m.length : Int)) = true := by
      rw [bne_iff_ne]; omega
    have HE := Lib.hid hlen
    clear hlen hl hm
    go_enter Tryd.func23, Tryd.ntmps23
    go_wp2
    go_ret
    exact ⟨congrArg (fun b => Ending.returned (.bool b)) (decide_eq_false (fun h => HE.out (by rw [h]))).symm, Below.refl _ _⟩

set_option maxRecDepth 100000 in
theorem nat_not8 : ∀ x, x < 256 → 255 ^^^ x = 255 - x := by decide
theorem u8_not (x : Nat) (h : x < 256) : bits .xor .u8 IntKind.u8.max (x : Int) = ((255 - x : Nat) : Int) := by
  have := u8_xor_nat 255 x (by omega) h
  rw [nat_not8 x h] at this
  rw [← this]; rfl

theorem news3 {w : World} {B : Nat} {x y z : Value} (h0 : w.cell? ⟨B, 0, none⟩ = some x) (h1 : w.cell? ⟨B, 1, none⟩ = some y) (h2 : w.cell? ⟨B, 2, none⟩ = some z) : ∀ j u, [x, y, z][j]? = some u → w.cell? ((⟨B, 0, none⟩ : Addr).add j) = some u :=
  fun j u hu => by
    have hj : j < 3 := (List.getElem?_eq_some_iff.1 hu).1
    have e : (⟨B, 0, none⟩ : Addr).add j = ⟨B, j, none⟩ := by unfold Addr.add; split <;> simp_all
    rw [e, ← hu]
    have : j = 0 ∨ j = 1 ∨ j = 2 := by omega
    rcases this with rfl | rfl | rfl <;> assumption
theorem news4 {w : World} {B : Nat} {x y z v : Value} (h0 : w.cell? ⟨B, 0, none⟩ = some x) (h1 : w.cell? ⟨B, 1, none⟩ = some y) (h2 : w.cell? ⟨B, 2, none⟩ = some z) (h3 : w.cell? ⟨B, 3, none⟩ = some v) : ∀ j u, [x, y, z, v][j]? = some u → w.cell? ((⟨B, 0, none⟩ : Addr).add j) = some u :=
  fun j u hu => by
    have hj : j < 4 := (List.getElem?_eq_some_iff.1 hu).1
    have e : (⟨B, 0, none⟩ : Addr).add j = ⟨B, j, none⟩ := by unfold Addr.add; split <;> simp_all
    rw [e, ← hu]
    have : j = 0 ∨ j = 1 ∨ j = 2 ∨ j = 3 := by omega
    rcases this with rfl | rfl | rfl | rfl <;> assumption
theorem head_vals (p : List UInt8) (h : p.length ≤ 131072) : vals (headB p) = [.int .u8 199, .int .u8 157, .int .u8 ((p.length : Int) / 65536), .int .u8 ((p.length : Int) / 256 % 256), .int .u8 ((p.length : Int) % 256),
    .int .u8 ((255 - p.length / 65536 % 256 : Nat) : Int), .int .u8 ((255 - p.length / 256 % 256 : Nat) : Int), .int .u8 ((255 - p.length % 256 : Nat) : Int),
    .int .u8 ((crc p : Int) / 16777216 % 256), .int .u8 ((crc p : Int) / 65536 % 256), .int .u8 ((crc p : Int) / 256 % 256), .int .u8 ((crc p : Int) % 256)] := by
  obtain ⟨q, hq⟩ : ∃ q, q = crc p := ⟨_, rfl⟩
  simp only [vals, headB, u8, List.map_cons, List.map_nil, UInt8.toNat_ofNat', ← hq]
  simp only [List.cons.injEq, Value.int.injEq, true_and, and_true]
  refine ⟨rfl, rfl, ?_, ?_, ?_, ?_, ?_, ?_, ?_, ?_, ?_, ?_⟩ <;> omega
/-- Nothing comes out, and why. -/
theorem wrap_big (A : Option Addr) (c n : Nat) (w : World) (hn : 131072 < n) :
    Calls Tryd.prog 20 #[.slice A n c] w fun e w' => e = .returned (.tuple #[.slice none 0 0, .int .i64 92]) ∧ w = w' := by
  go_enter Tryd.func20, Tryd.ntmps20
  go_wp2
  go_ret2
  exact ⟨rfl, rfl⟩

set_option maxHeartbeats 800000 in
set_option maxRecDepth 100000 in
theorem wrap_any (A : Option Addr) (c : Nat) (p : List UInt8) (w : World) (hl : BytesAt w A p) (hA : A = none → c = 0) (hlc : p.length ≤ c) (hn : p.length ≤ 131072) (ht : TableAt w) :
    Calls Tryd.prog 20 #[.slice A p.length c] w fun e w' => ∃ v, e = .returned (.tuple #[v, .int .i64 0]) ∧ w'.ownsRow w.heap.size 5 1 v (frameB p).length (vals (frameB p)) ∧ Below w.heap.size w w' := by
  have HL := Lib.hid hl
  have HA := Lib.hid hA
  have HT := Lib.hid ht
  have HI := Lib.hid u8info
  clear hl hA ht
  go_enter Tryd.func20, Tryd.ntmps20
  go_wp2_with fail
  have hb0 : Below w.heap.size w (w.alloc (Obj.cells #[Value.int .u8 ((p.length : Int) / 65536), Value.int .u8 ((p.length : Int) / 256 % 256), Value.int .u8 ((p.length : Int) % 256)] 81)) := (Below.refl _ _).alloc (Nat.le_refl _) _
  refine (checksum A c p _ (HL.out.below hb0) (by omega) (HT.out.below hb0)).mono ?_
  rintro e w1 ⟨rfl, hb1⟩
  have s0 : w1.cell? ⟨w.heap.size, 0, none⟩ = some (.int .u8 ((p.length : Int) / 65536)) := by rw [hb1.cell (p := ⟨w.heap.size, 0, none⟩) (by simp)]; simp
  have s1 : w1.cell? ⟨w.heap.size, 1, none⟩ = some (.int .u8 ((p.length : Int) / 256 % 256)) := by rw [hb1.cell (p := ⟨w.heap.size, 1, none⟩) (by simp)]; simp
  have s2 : w1.cell? ⟨w.heap.size, 2, none⟩ = some (.int .u8 ((p.length : Int) % 256)) := by rw [hb1.cell (p := ⟨w.heap.size, 2, none⟩) (by simp)]; simp
  have hz : w.heap.size < w1.heap.size := by have := hb1.size; simp at this; omega
  obtain ⟨z1, z2, z3, z4⟩ := lt_more hz
  have HB1 := Lib.hid (hb0.trans (hb1.mono (by simp)))
  clear hb0 hb1
  obtain ⟨q, hq⟩ : ∃ q, q = crc p := ⟨_, rfl⟩
  rw [← hq]
  have HQ := Lib.hid hq
  clear hq
  unfold sumCells
  obtain ⟨ti, hi0, hz0, hz1, hz2⟩ := info_parts u8info
  obtain ⟨W, hW⟩ : ∃ W, W = w1.alloc (Obj.cells #[.int .u8 ((q : Int) / 16777216 % 256), .int .u8 ((q : Int) / 65536 % 256), .int .u8 ((q : Int) / 256 % 256), .int .u8 ((q : Int) % 256)] 26) := ⟨_, rfl⟩
  obtain ⟨w2, hmk, ho2, hg2⟩ := run_make_own (P := Tryd.prog) W W.heap.size 22 5 ti (.int .u8 0) 1 Tryd.underlying22 hi0 hz0 hz1 .i64 .i64 (12 + p.length) (by rw [hz2]; omega) (by unfold maxLen; omega) (Nat.le_refl _)
  have hWs : W.heap.size = w1.heap.size + 1 := by rw [hW]; simp
  have hbW : Below w1.heap.size w1 W := by rw [hW]; exact (Below.refl _ _).alloc (Nat.le_refl _) _
  have hbg : Below W.heap.size W w2 := (Below.refl _ _).grown hg2 (Nat.le_refl _) (fun k hk => by cases hk)
  have a0 := (hbW.cell (p := ⟨w.heap.size, 0, none⟩) hz).trans s0
  have a1 := (hbW.cell (p := ⟨w.heap.size, 1, none⟩) hz).trans s1
  have a2 := (hbW.cell (p := ⟨w.heap.size, 2, none⟩) hz).trans s2
  have a3 : W.cell? ⟨w1.heap.size, 0, none⟩ = some (.int .u8 ((q : Int) / 16777216 % 256)) := by rw [hW]; simp
  have a4 : W.cell? ⟨w1.heap.size, 1, none⟩ = some (.int .u8 ((q : Int) / 65536 % 256)) := by rw [hW]; simp
  have a5 : W.cell? ⟨w1.heap.size, 2, none⟩ = some (.int .u8 ((q : Int) / 256 % 256)) := by rw [hW]; simp
  have a6 : W.cell? ⟨w1.heap.size, 3, none⟩ = some (.int .u8 ((q : Int) % 256)) := by rw [hW]; simp
  have HBW := Lib.hid (HB1.out.trans (hbW.mono HB1.out.size))
  have HA0 := Lib.hid (And.intro a0 (And.intro a1 (And.intro a2 (And.intro a3 (And.intro a4 (And.intro a5 a6))))))
  rw [hW, show ((12 + p.length : Nat) : Int) = 12 + (p.length : Int) by omega] at hmk
  rw [hWs] at ho2
  have HWs := Lib.hid hWs
  have HO2 := Lib.hid ho2
  have HG2 := Lib.hid hg2
  have HBG := Lib.hid hbg
  have HW := Lib.hid hW
  clear hWs ho2 hg2 hbg hW hbW a0 a1 a2 a3 a4 a5 a6 s0 s1 s2 z1 z2 z3 z4
  have zB : w1.heap.size + 1 ≤ w2.heap.size := by have := HBG.out.size; have := HWs.out; omega
  have b2 : Below (w1.heap.size + 1) W w2 := by have := HBG.out; rwa [HWs.out] at this
  have B2 := Lib.hid b2
  clear b2
  obtain ⟨m0, hm0⟩ : ∃ m : Nat, m = 255 - p.length / 65536 % 256 := ⟨_, rfl⟩
  obtain ⟨m1, hm1⟩ : ∃ m : Nat, m = 255 - p.length / 256 % 256 := ⟨_, rfl⟩
  obtain ⟨m2, hm2⟩ : ∃ m : Nat, m = 255 - p.length % 256 := ⟨_, rfl⟩
  have N0 : bits .xor .u8 IntKind.u8.max ((p.length : Int) / 65536) = (m0 : Int) := by
    have := u8_not (p.length / 65536) (by omega)
    rw [show ((p.length / 65536 : Nat) : Int) = (p.length : Int) / 65536 by omega] at this
    rw [this]; omega
  have N1 : bits .xor .u8 IntKind.u8.max ((p.length : Int) / 256 % 256) = (m1 : Int) := by
    have := u8_not (p.length / 256 % 256) (by omega)
    rw [show ((p.length / 256 % 256 : Nat) : Int) = (p.length : Int) / 256 % 256 by omega] at this
    rw [this]; omega
  have N2 : bits .xor .u8 IntKind.u8.max ((p.length : Int) % 256) = (m2 : Int) := by
    have := u8_not (p.length % 256) (by omega)
    rw [show ((p.length % 256 : Nat) : Int) = (p.length : Int) % 256 by omega] at this
    rw [this]; omega
  have hzB : w.heap.size < w1.heap.size + 1 := by omega
  have hzC : w1.heap.size < w1.heap.size + 1 := by omega
  have HM := Lib.hid (And.intro hm0 (And.intro hm1 hm2))
  clear hm0 hm1 hm2
  go_wp2_with (at_builtin; refine wpList_append_at _ rfl _ _ 22 rfl (w1.heap.size + 1) 5 _ 1 1 Tryd.underlying22 HI.out rfl (by omega) (.slice (some ⟨w1.heap.size + 1, 0, none⟩) 0 (12 + p.length)) 0 [] rfl (HO2.out.alloc _) ⟨w2.heap.size, 0, none⟩ 2 2 [.int .u8 199, .int .u8 157] rfl rfl (World.news_of_block (cs := #[.int .u8 199, .int .u8 157]) (t := 5) (fr := (0, 0)) (heap_alloc_new w2 _)) (by simp [Value.oneCell']) (by unfold maxLen; omega) (by omega) (by simp; omega) ?_; intro v3 w3 ho3 hg3 _; refine Hid.out ?_)
  refine Lib.hid ?_
  obtain ⟨g3, c3, rfl, _⟩ := own_shape ho3 (by omega)
  have B3 := Lib.hid ((B2.out.alloc zB _).grown hg3 (by simp; omega) (fun k hk => own_base' HO2.out k hk))
  have HO3 := Lib.hid ho3
  have e0 := (B3.out.cell (p := ⟨w.heap.size, 0, none⟩) hzB).trans HA0.out.1
  have e1 := (B3.out.cell (p := ⟨w.heap.size, 1, none⟩) hzB).trans HA0.out.2.1
  have e2 := (B3.out.cell (p := ⟨w.heap.size, 2, none⟩) hzB).trans HA0.out.2.2.1
  have E3 := Lib.hid (news3 e0 e1 e2)
  have zB3 : w1.heap.size + 1 ≤ w3.heap.size := by have := B3.out.size; have := HWs.out; omega
  clear ho3 hg3 e0 e1 e2
  go_wp2_with (at_builtin; refine wpList_append_at _ rfl _ _ 22 rfl (w1.heap.size + 1) 5 _ 1 1 Tryd.underlying22 HI.out rfl (by omega) (.slice (some ⟨g3, 0, none⟩) (0 + 2) c3) (0 + 2) _ rfl HO3.out ⟨w.heap.size, 0, none⟩ 3 3 [_, _, _] rfl rfl E3.out (by simp [Value.oneCell']) (by unfold maxLen; omega) (by omega) zB3 ?_; intro v4 w4 ho4 hg4 _; refine Hid.out ?_)
  refine Lib.hid ?_
  obtain ⟨g4, c4, rfl, _⟩ := own_shape ho4 (by omega)
  have B4 := Lib.hid (B3.out.grown hg4 zB3 (fun k hk => own_base' HO3.out k hk))
  have HO4 := Lib.hid ho4
  have e0 := (B4.out.cell (p := ⟨w.heap.size, 0, none⟩) hzB).trans HA0.out.1
  have e1 := (B4.out.cell (p := ⟨w.heap.size, 1, none⟩) hzB).trans HA0.out.2.1
  have e2 := (B4.out.cell (p := ⟨w.heap.size, 2, none⟩) hzB).trans HA0.out.2.2.1
  have zB4 : w1.heap.size + 1 ≤ w4.heap.size := by have := B4.out.size; have := HWs.out; omega
  clear ho4 hg4
  go_wp2_with (at_builtin; refine Hid.out ?_)
  refine Lib.hid ?_
  refine wpList_append_at _ rfl _ _ 22 rfl (w1.heap.size + 1) 5 _ 1 1 Tryd.underlying22 HI.out rfl (by omega) (.slice (some ⟨g4, 0, none⟩) (0 + 2 + 3) c4) (0 + 2 + 3) _ rfl (HO4.out.alloc _) ⟨w4.heap.size, 0, none⟩ 3 3 [.int .u8 m0, .int .u8 m1, .int .u8 m2] rfl rfl (World.news_of_block (cs := #[.int .u8 m0, .int .u8 m1, .int .u8 m2]) (t := 5) (fr := (0, 0)) (heap_alloc_new w4 _)) (by simp [Value.oneCell']) (by unfold maxLen; omega) (by omega) (by simp; omega) ?_
  intro v5 w5 ho5 hg5 _
  refine Hid.out ?_
  refine Lib.hid ?_
  obtain ⟨g5, c5, rfl, _⟩ := own_shape ho5 (by omega)
  have B5 := Lib.hid ((B4.out.alloc zB4 _).grown hg5 (by simp; omega) (fun k hk => own_base' HO4.out k hk))
  have HO5 := Lib.hid ho5
  have f0 := (B5.out.cell (p := ⟨w1.heap.size, 0, none⟩) hzC).trans HA0.out.2.2.2.1
  have f1 := (B5.out.cell (p := ⟨w1.heap.size, 1, none⟩) hzC).trans HA0.out.2.2.2.2.1
  have f2 := (B5.out.cell (p := ⟨w1.heap.size, 2, none⟩) hzC).trans HA0.out.2.2.2.2.2.1
  have f3 := (B5.out.cell (p := ⟨w1.heap.size, 3, none⟩) hzC).trans HA0.out.2.2.2.2.2.2
  have E5 := Lib.hid (news4 f0 f1 f2 f3)
  have zB5 : w1.heap.size + 1 ≤ w5.heap.size := by have := B5.out.size; have := HWs.out; omega
  clear ho5 hg5 f0 f1 f2 f3 e0 e1 e2
  go_wp2_with (at_builtin; refine wpList_append_at _ rfl _ _ 22 rfl (w1.heap.size + 1) 5 _ 1 1 Tryd.underlying22 HI.out rfl (by omega) (.slice (some ⟨g5, 0, none⟩) (0 + 2 + 3 + 3) c5) (0 + 2 + 3 + 3) _ rfl HO5.out ⟨w1.heap.size, 0, none⟩ 4 4 [_, _, _, _] rfl rfl E5.out (by simp [Value.oneCell']) (by unfold maxLen; omega) (by omega) zB5 ?_; intro v6 w6 ho6 hg6 _; refine Hid.out ?_)
  refine Lib.hid ?_
  obtain ⟨g6, c6, rfl, _⟩ := own_shape ho6 (by omega)
  have B6 := Lib.hid (B5.out.grown hg6 zB5 (fun k hk => own_base' HO5.out k hk))
  have HO6 := Lib.hid ho6
  have zB6 : w1.heap.size + 1 ≤ w6.heap.size := by have := B6.out.size; have := HWs.out; omega
  clear ho6 hg6
  go_wp2_with (at_builtin; refine wpList_append_src _ rfl _ _ 22 rfl (w1.heap.size + 1) 5 _ 1 1 Tryd.underlying22 HI.out rfl (by omega) (.slice (some ⟨g6, 0, none⟩) (0 + 2 + 3 + 3 + 4) c6) (0 + 2 + 3 + 3 + 4) _ rfl HO6.out A p.length c (vals p) rfl (by rw [vals_length]; omega) (fun h => by have := HA.out h; omega) (bytes_news (HL.out.below (HBW.out.trans (B6.out.mono (by omega))))) (vals_one p) (by unfold maxLen; omega) (by omega) zB6 ?_; intro v7 w7 ho7 hg7 _; refine Hid.out ?_)
  refine Lib.hid ?_
  have B7 := Lib.hid (B6.out.grown hg7 zB6 (fun k hk => own_base' HO6.out k hk))
  have HO7 := Lib.hid ho7
  clear ho7 hg7
  go_wp2
  go_ret2
  refine ⟨_, rfl, ?_, HBW.out.trans (B7.out.mono (by omega))⟩
  have h := HO7.out
  obtain ⟨h0, h1, h2⟩ := HM.out
  rw [frameB_length, frameB, vals_append, head_vals p hn, ← HQ.out, ← h0, ← h1, ← h2]
  have e : 0 + 2 + 3 + 3 + 4 + p.length = 12 + p.length := by omega
  rw [e] at h
  exact World.ownsRow.mono h (by omega)
end Go.Proofs.YtooagpjfcnpheaaDoor
