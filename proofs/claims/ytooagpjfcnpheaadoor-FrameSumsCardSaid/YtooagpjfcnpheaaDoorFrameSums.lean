/- FrameSums: the checksum's algebra. -/
import Derived.Test.YtooagpjfcnpheaaDoorFlipped
import Derived.Test.YtooagpjfcnpheaaDoorCrcLaw
import Derived.Deep.RegionHeld3
import Derived.Deep.AppendLies
import Derived.Deep.DeepCutAuto
import Derived.Lib.SlBytesConst
namespace Go.Proofs.YtooagpjfcnpheaaDoor
open Go.RowKit

theorem own_base' {w : World} {base : Nat} {e : TypeId} {size n : Nat} {v : Value} {xs : List Value} (h : w.ownsRow base e size v n xs) (k : Nat) (hk : v.ownBlock = some k) : base ≤ k := by
  rcases h.2 with ⟨rfl, _⟩ | ⟨g, cap, cur, rfl, hg, _⟩
  · simp [Value.ownBlock] at hk
  · simp [Value.ownBlock] at hk; omega

def nine : List UInt8 := [49, 50, 51, 52, 53, 54, 55, 56, 57]

set_option maxHeartbeats 1600000 in
set_option maxRecDepth 100000 in
theorem sums_walk (A1 A2 A3 : Option Addr) (c1 c2 c3 : Nat) (x y z : List UInt8) (b : Int) (w : World) (hx : BytesAt w A1 x) (hy : BytesAt w A2 y) (hz : BytesAt w A3 z)
    (hA1 : A1 = none → c1 = 0) (hA2 : A2 = none → c2 = 0) (hA3 : A3 = none → c3 = 0) (hc1 : x.length ≤ c1) (hc2 : y.length ≤ c2) (hc3 : z.length ≤ c3) (hn1 : c1 ≤ 140737488351232) (hn2 : c2 ≤ 140737488351232) (hn3 : c3 ≤ 140737488351232) (ht : TableAt w) :
    Calls Tryd.prog 3 #[.slice A1 x.length c1, .slice A2 y.length c2, .slice A3 z.length c3, .int .i64 b] w fun e w' => e = .returned (.bool true) ∧ Below w.heap.size w w' := by
  obtain ⟨n, hn⟩ : ∃ n, n = min (min x.length y.length) z.length := ⟨_, rfl⟩
  have hnx : n ≤ x.length := by omega
  have hny : n ≤ y.length := by omega
  have hnz : n ≤ z.length := by omega
  have HN := Lib.hid hn
  have HX := Lib.hid hx
  have HY := Lib.hid hy
  have HZ := Lib.hid hz
  have HT := Lib.hid ht
  have HA1 := Lib.hid hA1
  have HA2 := Lib.hid hA2
  have HA3 := Lib.hid hA3
  have h9 : BytesAt (w.alloc (.cells #[.int .u8 49, .int .u8 50, .int .u8 51, .int .u8 52, .int .u8 53, .int .u8 54, .int .u8 55, .int .u8 56, .int .u8 57] 5 (9, 10))) (some ⟨w.heap.size, 0, none⟩) nine := by
    intro k hk
    refine ⟨w.heap.size, 0, rfl, by simp, ?_⟩
    have : k = 0 ∨ k = 1 ∨ k = 2 ∨ k = 3 ∨ k = 4 ∨ k = 5 ∨ k = 6 ∨ k = 7 ∨ k = 8 := by simp [nine] at hk; omega
    rw [cell_of_row _ w.heap.size _ _ _ _ (heap_alloc_new w _)]
    rcases this with rfl | rfl | rfl | rfl | rfl | rfl | rfl | rfl | rfl <;> rfl
  have H9 := Lib.hid h9
  clear hn hx hy hz ht hA1 hA2 hA3 h9
  have kc := fun (w : World) (C : Array Value) (n c : Nat) => Lib.run_convert_bytes_const (P := Tryd.prog) w 22 5 C n c Tryd.underlying22 Tryd.underlying5
  go_enter Tryd.func3, Tryd.ntmps3
  go_wp2_with fail
  refine (checksum_n (some ⟨w.heap.size, 0, none⟩) 9 9 nine _ H9.out (by simp [nine]) (HT.out.below ((Below.refl _ _).alloc (Nat.le_refl _) _)) rfl).mono ?_
  rintro e w1 ⟨rfl, hb1⟩
  have HB1 := Lib.hid (((Below.refl w.heap.size w).alloc (Nat.le_refl _) _).trans (hb1.mono (by simp)))
  clear hb1
  go_wp2_with fail
  refine (eight_any _ (crc_lt _) _).mono ?_
  rintro e w2 ⟨rfl, hb2⟩
  have HB2 := Lib.hid (HB1.out.trans (hb2.mono HB1.out.size))
  clear hb2
  rw [show crc nine = 3808858755 from crc_nine]
  have hxm : x.length ≤ 140737488351232 := by omega
  have hym : y.length ≤ 140737488351232 := by omega
  have hzm : z.length ≤ 140737488351232 := by omega
  clear kc
  go_upto_if 25 with (fail)
  go_cut [9] (fun s wx => s = .int .i64 ((min x.length y.length : Nat) : Int) ∧ Below w.heap.size w wx)
  case first =>
    by_cases h : y.length < x.length
    · go_wp2
      go_meet
      exact ⟨by rw [Nat.min_eq_right (by omega)], HB2.out⟩
    · go_wp2
      go_meet
      exact ⟨by rw [Nat.min_eq_left (by omega)], HB2.out⟩
  case rest =>
    obtain ⟨rfl, hb⟩ := hcut
    have HB3 := Lib.hid hb
    clear HB2 hb
    obtain ⟨m, hm⟩ : ∃ m, m = min x.length y.length := ⟨_, rfl⟩
    rw [← hm]
    have HM := Lib.hid hm
    have hmm : m ≤ 140737488351232 := by omega
    clear hm
    go_upto_if 31 with (fail)
    go_cut [9] (fun s wx => s = .int .i64 (n : Int) ∧ Below w.heap.size w wx)
    case first =>
      by_cases h : z.length < m
      · go_wp2
        go_meet
        exact ⟨by rw [HN.out, ← HM.out, Nat.min_eq_right (by omega)], HB3.out⟩
      · go_wp2
        go_meet
        exact ⟨by rw [HN.out, ← HM.out, Nat.min_eq_left (by omega)], HB3.out⟩
    case rest =>
      obtain ⟨rfl, hb⟩ := hcut
      have HB4 := Lib.hid hb
      clear HB3 hb
      obtain ⟨xs, hxs⟩ : ∃ xs, xs = xors (x.take n) (y.take n) (z.take n) := ⟨_, rfl⟩
      have hxl : xs.length = n := by rw [hxs, xors_length]; simp; omega
      have HXS := Lib.hid hxs
      clear hxs
      go_wp2
      go_loopw [10, 11] (fun v i wr => ∃ k : Nat, k ≤ n ∧ i = .int .i64 k ∧ wr.ownsRow w.heap.size 5 1 v k (vals (xs.take k)) ∧ Below w.heap.size w wr) (fun _ i _ => n - (intOf i).toNat)
      case atStart => exact ⟨0, Nat.zero_le _, rfl, ⟨rfl, .inl ⟨rfl, rfl⟩⟩, HB4.out⟩
      case round =>
        obtain ⟨k, hk, rfl, hown, hb⟩ := hrel
        by_cases hlt : k < n
        · obtain ⟨b1, o1, rfl, hb1, q1⟩ := HX.out k (by omega)
          obtain ⟨b2, o2, rfl, hb2, q2⟩ := HY.out k (by omega)
          obtain ⟨b3, o3, rfl, hb3, q3⟩ := HZ.out k (by omega)
          obtain ⟨p1, hp1⟩ : ∃ p, p = x.getD k 0 := ⟨_, rfl⟩
          obtain ⟨p2, hp2⟩ : ∃ p, p = y.getD k 0 := ⟨_, rfl⟩
          obtain ⟨p3, hp3⟩ : ∃ p, p = z.getD k 0 := ⟨_, rfl⟩
          rw [← hp1] at q1
          rw [← hp2] at q2
          rw [← hp3] at q3
          have e1 := (hb.cell (p := ⟨b1, o1 + k, none⟩) hb1).trans q1
          have e2 := (hb.cell (p := ⟨b2, o2 + k, none⟩) hb2).trans q2
          have e3 := (hb.cell (p := ⟨b3, o3 + k, none⟩) hb3).trans q3
          have hsz := hb.size
          have hnx : xs.getD k 0 = p1 ^^^ p2 ^^^ p3 := by rw [HXS.out, hp1, hp2, hp3]; exact xors_get n x y z k hlt (by omega) (by omega) (by omega)
          have ne : ∀ bb, bb < w.heap.size → some bb ≠ u10.ownBlock := fun bb h1 h2 => by
            have := own_base' hown bb h2.symm
            omega
          have ne1 := ne b1 hb1
          have ne2 := ne b2 hb2
          have ne3 := ne b3 hb3
          obtain ⟨m1, hm1⟩ : ∃ m, m = p1 ^^^ p2 := ⟨_, rfl⟩
          obtain ⟨m2, hm2⟩ : ∃ m, m = m1 ^^^ p3 := ⟨_, rfl⟩
          have E1 : bits .xor .u8 (p1.toNat : Int) (p2.toNat : Int) = (m1.toNat : Int) := by
            rw [u8_xor_nat _ _ p1.toNat_lt p2.toNat_lt, hm1, UInt8.toNat_xor]
          have E2 : bits .xor .u8 (m1.toNat : Int) (p3.toNat : Int) = (m2.toNat : Int) := by
            rw [u8_xor_nat _ _ m1.toNat_lt p3.toNat_lt, hm2, UInt8.toNat_xor]
          have hnx : xs.getD k 0 = m2 := by rw [hnx, hm2, hm1]
          have i0 : (0 : Int) ≤ (k : Int) := by omega
          have i1 : (k : Int) < (x.length : Int) := by omega
          have i2 : (k : Int) < (y.length : Int) := by omega
          have i3 : (k : Int) < (z.length : Int) := by omega
          clear hm1 hm2
          have g1 : b1 < wr.heap.size := by omega
          have g2 : b2 < wr.heap.size := by omega
          have g3 : b3 < wr.heap.size := by omega
          obtain ⟨ti, hi0, hz0, hz1, hz2⟩ := info_parts u8info
          have HN2 := Lib.hid hnx
          have HO := Lib.hid hown
          have HB := Lib.hid hb
          clear hnx hown hb hp1 hp2 hp3 q1 q2 q3 ne
          go_wp2
          go_region_held3 (fun w' => w'.cell? ⟨b1, o1 + k, none⟩ = some (.int .u8 (p1.toNat : Int)) ∧ w'.cell? ⟨b2, o2 + k, none⟩ = some (.int .u8 (p2.toNat : Int)) ∧ w'.cell? ⟨b3, o3 + k, none⟩ = some (.int .u8 (p3.toNat : Int)))
            (first
              | (go_keep; done)
              | (go_split_ands
                 refine ⟨?_, ?_, ?_⟩
                 · (rw [hgrow.cell_far _ (by simp; omega) ne1]; assumption)
                 · (rw [hgrow.cell_far _ (by simp; omega) ne2]; assumption)
                 · (rw [hgrow.cell_far _ (by simp; omega) ne3]; assumption)))
            ((refine step_append_lies _ (by rfl) _ _ _ (by rfl) w.heap.size 5 ti _ 1 1 Tryd.underlying22 hi0 hz0 hz1 hz2 rfl (by omega) u10 k (vals (xs.take k)) (by rfl) ((HO.out.alloc _).drew) ⟨wr.heap.size, 0, none⟩ 1 1 [.int .u8 (m2.toNat : Int)] (by rfl) (by rfl) (World.news_of_block (cs := #[.int .u8 (m2.toNat : Int)]) (t := 5) (fr := (0, 0)) (heap_alloc_new wr _)) (by simp [Value.oneCell']) (by omega) (by unfold maxLen; omega) (by omega) (by simp; omega) (wr.heap.size + 1) (by simp) ?_; intro gg cap w2 hown2 hgrow hat hltg))
          have R1 : w2.ownsRow w.heap.size 5 1 (.slice (some ⟨gg, 0, none⟩) (k + 1) cap) (k + 1) (vals (xs.take (k + 1))) := by
            rw [List.take_succ_eq_append_getElem (by omega), vals_append]
            have : vals [xs[k]] = [.int .u8 (m2.toNat : Int)] := by
              have h := HN2.out
              rw [List.getD_eq_getElem?_getD, List.getElem?_eq_getElem (by omega), Option.getD_some] at h
              rw [h]; rfl
            rw [this]; exact hown2
          have R2 : Below w.heap.size w w2 := ((HB.out.alloc (by omega) _).drew).grown hgrow (by simp; omega) (fun q hq => own_base' HO.out q hq)
          have R1 := Lib.hid R1
          have R2 := Lib.hid R2
          clear hown2 hgrow hat hltg
          go_wp2
          go_roundw
          case rel => exact ⟨k + 1, by omega, by go_num, R1.out, R2.out⟩
          case measure => simp [intOf]; omega
        · obtain rfl : k = n := by omega
          rw [List.take_of_length_le (by omega)] at hown
          obtain ⟨hke, A4, d4, rfl, hB4, hA4, hl4, _⟩ := own_bytes hown
          have HB4' := Lib.hid hB4
          have HB := Lib.hid hb
          have HXR := Lib.hid (HX.out.below hb)
          have HYR := Lib.hid (HY.out.below hb)
          have HZR := Lib.hid (HZ.out.below hb)
          have HTR := Lib.hid (HT.out.below hb)
          have P0 := Lib.hid (Below.refl wr.heap.size wr)
          have HXL := Lib.hid hxl
          have hxl1 : xs.length ≤ k := by omega
          clear hown hb hB4 hA4 hke hxl H9 HB1 HB4 HX HY HZ HT
          go_wp2_with fail
          refine (copied_n A1 k c1 (x.take k) _ ((HXR.out.below P0.out).take k) HA1.out (by rw [List.length_take]; omega) (by rw [List.length_take]; omega) (by rw [List.length_take]; omega)).mono ?_
          rintro e v1a ⟨v1, rfl, ho1, hb1⟩
          obtain ⟨he1, B1, d1, rfl, hB1, _, _, _⟩ := own_bytes ho1
          have P1a := Lib.hid (P0.out.trans (hb1.mono P0.out.size))
          have Q1 := Lib.hid hB1
          clear ho1 hb1 hB1 he1
          go_wp2_with fail
          refine (checksum_n B1 _ d1 (x.take k) _ Q1.out (by rw [List.length_take]; omega) (HTR.out.below P1a.out) (by rw [List.length_take]; omega)).mono ?_
          rintro e v1b ⟨rfl, hb1⟩
          have P1b := Lib.hid (P1a.out.trans (hb1.mono P1a.out.size))
          clear hb1
          go_wp2_with fail
          refine (eight_any _ (crc_lt _) _).mono ?_
          rintro e v1c ⟨rfl, hb1⟩
          have P1c := Lib.hid (P1b.out.trans (hb1.mono P1b.out.size))
          clear hb1
          obtain ⟨q1, hq1⟩ : ∃ q, q = crc (x.take k) := ⟨_, rfl⟩
          rw [← hq1]
          have HQ1 := Lib.hid hq1
          clear hq1
          go_wp2_with fail
          refine (copied_n A2 k c2 (y.take k) _ ((HYR.out.below P1c.out).take k) HA2.out (by rw [List.length_take]; omega) (by rw [List.length_take]; omega) (by rw [List.length_take]; omega)).mono ?_
          rintro e v2a ⟨v2, rfl, ho2, hb2⟩
          obtain ⟨he2, B2, d2, rfl, hB2, _, _, _⟩ := own_bytes ho2
          have P2a := Lib.hid (P1c.out.trans (hb2.mono P1c.out.size))
          have Q2 := Lib.hid hB2
          clear ho2 hb2 hB2 he2
          go_wp2_with fail
          refine (checksum_n B2 _ d2 (y.take k) _ Q2.out (by rw [List.length_take]; omega) (HTR.out.below P2a.out) (by rw [List.length_take]; omega)).mono ?_
          rintro e v2b ⟨rfl, hb2⟩
          have P2b := Lib.hid (P2a.out.trans (hb2.mono P2a.out.size))
          clear hb2
          go_wp2_with fail
          refine (eight_any _ (crc_lt _) _).mono ?_
          rintro e v2c ⟨rfl, hb2⟩
          have P2c := Lib.hid (P2b.out.trans (hb2.mono P2b.out.size))
          clear hb2
          obtain ⟨q2, hq2⟩ : ∃ q, q = crc (y.take k) := ⟨_, rfl⟩
          rw [← hq2]
          have HQ2 := Lib.hid hq2
          clear hq2
          go_wp2_with fail
          refine (copied_n A3 k c3 (z.take k) _ ((HZR.out.below P2c.out).take k) HA3.out (by rw [List.length_take]; omega) (by rw [List.length_take]; omega) (by rw [List.length_take]; omega)).mono ?_
          rintro e v3a ⟨v3, rfl, ho3, hb3⟩
          obtain ⟨he3, B3, d3, rfl, hB3, _, _, _⟩ := own_bytes ho3
          have P3a := Lib.hid (P2c.out.trans (hb3.mono P2c.out.size))
          have Q3 := Lib.hid hB3
          clear ho3 hb3 hB3 he3
          go_wp2_with fail
          refine (checksum_n B3 _ d3 (z.take k) _ Q3.out (by rw [List.length_take]; omega) (HTR.out.below P3a.out) (by rw [List.length_take]; omega)).mono ?_
          rintro e v3b ⟨rfl, hb3⟩
          have P3b := Lib.hid (P3a.out.trans (hb3.mono P3a.out.size))
          clear hb3
          go_wp2_with fail
          refine (eight_any _ (crc_lt _) _).mono ?_
          rintro e v3c ⟨rfl, hb3⟩
          have P3c := Lib.hid (P3b.out.trans (hb3.mono P3b.out.size))
          clear hb3
          obtain ⟨q3, hq3⟩ : ∃ q, q = crc (z.take k) := ⟨_, rfl⟩
          rw [← hq3]
          have HQ3 := Lib.hid hq3
          clear hq3
          go_wp2_with fail
          refine (checksum_n A4 _ d4 xs _ (HB4'.out.below P3c.out) (by omega) (HTR.out.below P3c.out) rfl).mono ?_
          rintro e v4b ⟨rfl, hb4⟩
          have P4b := Lib.hid (P3c.out.trans (hb4.mono P3c.out.size))
          clear hb4
          go_wp2_with fail
          refine (eight_any _ (crc_lt _) _).mono ?_
          rintro e v4c ⟨rfl, hb4⟩
          have P4c := Lib.hid (P4b.out.trans (hb4.mono P4b.out.size))
          clear hb4
          obtain ⟨q4, hq4⟩ : ∃ q, q = crc xs := ⟨_, rfl⟩
          rw [← hq4]
          have HQ4 := Lib.hid hq4
          clear hq4
          have hneq : ((q4 : Int) != bits BinOp.xor IntKind.u32 (bits BinOp.xor IntKind.u32 (q1 : Int) (q2 : Int)) (q3 : Int)) = false := by
            rw [HQ4.out, HQ1.out, HQ2.out, HQ3.out, HXS.out, crc_xor3 _ _ _ (by rw [List.length_take, List.length_take]; omega) (by rw [List.length_take, List.length_take]; omega), u32_xor_nat _ _ (crc_lt _) (crc_lt _),
              u32_xor_nat _ _ (Nat.xor_lt_two_pow (n := 32) (crc_lt _) (crc_lt _)) (crc_lt _)]
            simp
          by_cases hk0 : k = 0
          · have h0 : ((q1 : Int) == 0) = true := by rw [HQ1.out, hk0]; rfl
            have hk1 : (k : Int) = 0 := by omega
            clear hk0
            go_wp2_with fail
            go_ret
            exact ⟨rfl, HB.out.trans (P4c.out.mono HB.out.size)⟩
          · have hkp : 0 < k := by omega
            have hk1 : ¬ (k : Int) = 0 := by omega
            have r0 : 0 ≤ b % (8 * (k : Int)) := Int.emod_nonneg _ (by omega)
            have r1 : b % (8 * (k : Int)) < 8 * (k : Int) := Int.emod_lt_of_pos _ (by omega)
            have hkc : (k : Int) ≤ (c1 : Int) := by omega
            have hk0' : (0 : Int) ≤ (k : Int) := by omega
            have hw8 : IntKind.i64.wrap (8 * (k : Int)) = 8 * (k : Int) := by rw [IntKind.wrap_i64]; omega
            have hfin : ((crc (flip (x.take k) (b % (8 * (k : Int))).toNat) : Int) != (q1 : Int)) = true := by
              rw [HQ1.out, bne_iff_ne]
              intro he
              refine crc_ne (reg_set_ne (x.take k) ((b % (8 * (k : Int))).toNat / 8) _ ?_ ?_) (Int.ofNat.inj he)
              · rw [List.length_take]; omega
              · exact xor_flip_ne _ (by omega)
            clear hk0
            have HFL := Lib.hid (flipped_n A1 k c1 (x.take k) (b % (8 * (k : Int))) v4c.drew ((HXR.out.below P4c.out.drew).take k) HA1.out (by rw [List.length_take]; omega) (by rw [List.length_take]; omega) r0 (by rw [List.length_take]; omega) (by rw [List.length_take]; omega))
            go_wp2_with fail
            go_region_with (first
              | (go_at_call 16; refine (rest_any _ _ _ (by omega) (by omega)).mono ?_; rintro e w' ⟨rfl, rfl⟩)
              | (go_at_call 15; refine HFL.out.mono ?_; rintro e v5a ⟨v5, rfl, ho5, hb5⟩; obtain ⟨he5, B5, d5, rfl, hB5, _, _, _⟩ := own_bytes ho5; have P5a := Lib.hid (P4c.out.drew.trans (hb5.mono P4c.out.size)); have Q5 := Lib.hid hB5; clear ho5 hb5 hB5 he5)
              | (go_at_call 13; refine (checksum_n B5 _ d5 _ _ Q5.out (by rw [flip_length, List.length_take]; omega) (HTR.out.below P5a.out) (by simp [flip_length])).mono ?_; rintro e v5b ⟨rfl, hb5⟩; have P5b := Lib.hid (P5a.out.trans (hb5.mono P5a.out.size)); clear hb5)
              | (go_at_call 12; refine (eight_any _ (crc_lt _) _).mono ?_; rintro e v5c ⟨rfl, hb5⟩; have P5c := Lib.hid (P5b.out.trans (hb5.mono P5b.out.size)); clear hb5))
            go_wp2
            go_ret
            exact ⟨rfl, HB.out.trans (P5c.out.mono HB.out.size)⟩
end Go.Proofs.YtooagpjfcnpheaaDoor
