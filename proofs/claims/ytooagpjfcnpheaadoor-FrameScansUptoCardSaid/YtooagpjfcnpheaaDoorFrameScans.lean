/- FrameScans: a run of frames that is cut, or has one bit turned: what Scan tells. -/
import Derived.Test.YtooagpjfcnpheaaDoorFrameStream
import Derived.Test.YtooagpjfcnpheaaDoorFlipped
import Derived.Test.YtooagpjfcnpheaaDoorLaw
import Derived.Deep.DeepCutAuto
namespace Go.Proofs.YtooagpjfcnpheaaDoor
open Go.RowKit

theorem eqAll_n (A B : Option Addr) (n m' c d : Nat) (l m : List (List UInt8)) (w : World) (hl : RowsAt w A l) (hm : RowsAt w B m) (hn : l.length ≤ 140737488351232) (hnl : ∀ x ∈ l, x.length ≤ 140737488351232) (e1 : n = l.length) (e2 : m' = m.length) :
    Calls Tryd.prog 19 #[.slice A n c, .slice B m' d] w fun e w' => e = .returned (.bool (decide (l = m))) ∧ Below w.heap.size w w' := by
  subst e1 e2; exact eqAll_any A B c d l m w hl hm hn hnl
theorem scan_n (A : Option Addr) (n c : Nat) (l : List UInt8) (w : World) (hl : BytesAt w A l) (hA : A = none → c = 0) (hlc : l.length ≤ c) (hn : l.length ≤ 1099511627776) (ht : TableAt w) (e : n = l.length) :
    Calls Tryd.prog 18 #[.slice A n c] w (ScanIs l w) := by subst e; exact scan_any A c l w hl hA hlc hn ht
theorem offB_le (ps : List (List UInt8)) (i : Nat) : offB ps i ≤ (framesB ps).length := by
  unfold offB
  conv => rhs; rw [← List.take_append_drop i ps, framesB_append, List.length_append]
  omega

set_option maxHeartbeats 2000000 in
set_option maxRecDepth 100000 in
theorem scans_walk (A : Option Addr) (c : Nat) (ps : List (List UInt8)) (cut bit : Int) (w : World) (hp : RowsAt w A ps) (hc : ps.length ≤ c) (hps : ∀ p ∈ ps, p.length ≤ 140737488351232) (hT : TableAt w) :
    Calls Tryd.prog 4 #[.slice A ps.length c, .int .i64 cut, .int .i64 bit] w (Lawful w) := by
  have HST := Lib.hid (stream_any A c ps w hp hps hT)
  have HP := Lib.hid hp
  have HPS := Lib.hid hps
  have HT := Lib.hid hT
  clear hp hps hT
  go_enter Tryd.func4, Tryd.ntmps4
  go_wp2_with (fail)
  refine HST.out.mono ?_
  rintro e w2 ⟨m, v1, v2, rfl, hm1, hm12, hsm, ho1, ho2, hb2⟩
  obtain ⟨qs, hqs⟩ : ∃ qs, qs = ps.take m := ⟨_, rfl⟩
  have hql : qs.length = m := by rw [hqs, List.length_take]; omega
  rw [← offV_take, ← hqs] at ho2
  rw [← hqs] at ho1 hsm
  have hfl := framesB_le qs hsm
  obtain ⟨f, hf⟩ : ∃ f, f = framesB qs := ⟨_, rfl⟩
  rw [← hf] at ho1 hfl
  obtain ⟨_, A1, c1, rfl, hB1, hA1, hc1, _⟩ := own_bytes ho1
  obtain ⟨g2, c2, rfl, hg2, _, hc2', _⟩ := own_shape ho2 (by omega)
  have hcell : ∀ j, j ≤ m → w2.cell? ⟨g2, j, none⟩ = some (.int .i64 (offB qs j : Int)) := fun j hj => by
    rw [ho2.cellAt j (by omega), offV_get qs m j hj]
  have hle := fun j => offB_le qs j
  rw [← hf] at hle
  have hall : offB qs m = f.length := by rw [← hql, offB_all, hf]
  have hz : offB qs 0 = 0 := rfl
  obtain ⟨o, ho⟩ : ∃ o, o = offB qs := ⟨_, rfl⟩
  rw [← ho] at hcell hle hall hz
  have hL : f.length ≤ 196752 := by omega
  have HQ := Lib.hid hqs
  have HSM := Lib.hid hsm
  have HF := Lib.hid hf
  have HO := Lib.hid ho
  have HCL := Lib.hid hcell
  have HLE := Lib.hid hle
  have HAL := Lib.hid hall
  have HB1 := Lib.hid hB1
  have HA1 := Lib.hid hA1
  have HB2 := Lib.hid hb2
  have HQL := Lib.hid hql
  clear hqs hsm hf ho hcell hle hall hB1 hA1 hb2 ho1 ho2 hql hfl HST
  obtain ⟨k, hk⟩ : ∃ k : Nat, (k : Int) = cut % ((f.length : Int) + 1) := ⟨(cut % ((f.length : Int) + 1)).toNat, by have := Int.emod_nonneg cut (show (f.length : Int) + 1 ≠ 0 by omega); omega⟩
  have hkl : k ≤ f.length := by have := Int.emod_lt_of_pos cut (show (0 : Int) < (f.length : Int) + 1 by omega); omega
  have HK := Lib.hid hk
  clear hk
  go_wp2_with (fail)
  refine (rest_any cut ((f.length : Int) + 1) w2 (by omega) (by omega)).mono ?_
  rintro e w3 ⟨rfl, rfl⟩
  rw [← HK.out]
  go_wp2
  go_loopw [11] (fun i wr => ∃ a : Nat, a ≤ m ∧ i = .int .i64 (a : Int) ∧ o a ≤ k ∧ w2 = wr) (fun i _ => m - (intOf i).toNat)
  case atStart => exact ⟨0, by omega, rfl, by omega, rfl⟩
  case round =>
    obtain ⟨a, ha, rfl, hak, rfl⟩ := hrel
    by_cases hgo : a < m ∧ o (a + 1) ≤ k
    · obtain ⟨hlt, hle⟩ := hgo
      have hlti : (a : Int) < (m : Int) := by omega
      have hlei : ((o (a + 1) : Nat) : Int) ≤ (k : Int) := by omega
      have q0 := HCL.out (a + 1) (by omega)
      go_wp2
      go_roundw
      case rel => exact ⟨a + 1, by omega, by go_num, by omega, by simp⟩
      case measure => simp [intOf]; omega
    · have HGO := Lib.hid hgo
      clear hgo
      go_upto_region 6 with (fail)
      go_cut [45] (fun s wx => s = .bool false ∧ w2 = wx)
      case first =>
        by_cases hlt : a < m
        · have hlti : (a : Int) < (m : Int) := by omega
          have hlei : ¬ ((o (a + 1) : Nat) : Int) ≤ (k : Int) := fun h => HGO.out ⟨hlt, by omega⟩
          have q0 := HCL.out (a + 1) (by omega)
          go_wp2
          go_meet
          exact ⟨rfl, rfl⟩
        · obtain rfl : a = m := by omega
          go_wp2
          go_meet
          exact ⟨rfl, rfl⟩
      case rest =>
        obtain ⟨rfl, rfl⟩ := hcut
        have hea := scan_cut qs (fun p hp => by have := HSM.out p hp; omega) k a (by rw [HQL.out]; exact ha) (by rw [← HO.out]; exact hak) (fun h => by rw [HQL.out] at h; rw [← HO.out]; exact Nat.lt_of_not_le fun h2 => HGO.out ⟨h, h2⟩) (by rw [← HF.out]; exact hkl)
        rw [← HF.out, ← HO.out] at hea
        have htk : qs.take a = ps.take a := by rw [HQ.out, List.take_take, Nat.min_eq_left ha]
        rw [htk] at hea
        obtain ⟨ls, hls⟩ : ∃ ls, ls = ps.take a := ⟨_, rfl⟩
        have hlsl : ls.length = a := by rw [hls, List.length_take]; omega
        have hlsm : ∀ x ∈ ls, x.length ≤ 140737488351232 := fun x hx => HPS.out x (by rw [hls] at hx; exact List.mem_of_mem_take hx)
        have hlsa : RowsAt w A ls := by rw [hls]; exact HP.out.take a
        rw [← hls] at hea htk
        obtain ⟨e0, he0⟩ : ∃ e0 : Nat, e0 = if o a < k then 90 else 0 := ⟨_, rfl⟩
        rw [← he0] at hea
        have HE0 := Lib.hid he0
        have HLL := Lib.hid hlsl
        have HLM := Lib.hid hlsm
        have HLA := Lib.hid hlsa
        clear hls hlsl hlsm hlsa he0
        have HEA := Lib.hid hea
        have HTK := Lib.hid htk
        clear hea htk
        have hkc : k ≤ c1 := by omega
        obtain ⟨y, hy⟩ : ∃ y, y = f.take k := ⟨_, rfl⟩
        have hyl : k = y.length := by rw [hy, List.length_take]; omega
        have hyb : BytesAt w2 A1 y := by rw [hy]; exact HB1.out.take k
        rw [← hy] at HEA
        have HYL := Lib.hid hyl
        have HYB := Lib.hid hyb
        clear hy hyl hyb
        go_wp2_with (fail)
        refine (copied_n A1 k c1 y _ HYB.out HA1.out (by rw [← HYL.out]; omega) (by rw [← HYL.out]; omega) HYL.out).mono ?_
        rintro e w4 ⟨v4, rfl, ho4, hb4⟩
        obtain ⟨hl4, A4, c4, rfl, hB4, hA4, hc4, _⟩ := own_bytes ho4
        have B4 := Lib.hid (HB2.out.trans (hb4.mono HB2.out.size))
        have H24 := Lib.hid hb4
        have HS4 := Lib.hid (scan_any A4 c4 y w4 hB4 hA4 hc4 (by rw [← HYL.out]; omega) (HT.out.below B4.out))
        clear ho4 hb4 hB4 hA4 hl4
        go_wp2_with (fail)
        refine HS4.out.mono ?_
        rintro e w5 ⟨v5, rfl, ho5, hb5⟩
        rw [HEA.out] at ho5 ⊢
        obtain ⟨A5, c5, rfl, hR5, _, hc5, _⟩ := own_rows_shape ho5
        rw [HLL.out]
        have B5 := Lib.hid (B4.out.trans (hb5.mono B4.out.size))
        have H25 := Lib.hid (H24.out.trans (hb5.mono H24.out.size))
        have HQE := Lib.hid (eqAll_n A5 A a a c5 c ls ls w5 hR5 (HLA.out.below B5.out) (by rw [HLL.out]; omega) HLM.out HLL.out.symm HLL.out.symm)
        have q2 := HCL.out a ha
        have q5 := (H25.out.cell (p := ⟨g2, a, none⟩) (World.block_lt_of_cell? _ _ q2)).trans q2
        clear ho5 hb5 hR5 q2
        go_upto_if 62 with (fail)
        go_cut [15] (fun s wx => s = .int .i64 (e0 : Int) ∧ w5 = wx)
        case first =>
          by_cases hk : o a < k
          · have hki : ((o a : Nat) : Int) < (k : Int) := by omega
            have he := HE0.out
            rw [if_pos hk] at he
            subst he
            go_wp2
            go_meet
            exact ⟨rfl, rfl⟩
          · have hki : ¬ ((o a : Nat) : Int) < (k : Int) := by omega
            have he := HE0.out
            rw [if_neg hk] at he
            subst he
            go_wp2
            go_meet
            exact ⟨rfl, rfl⟩
        case rest =>
          obtain ⟨rfl, rfl⟩ := hcut
          have hac : (a : Int) ≤ (c : Int) := by omega
          go_wp2_with (fail)
          refine HQE.out.mono ?_
          rintro e w6 ⟨rfl, hb6⟩
          have B6 := Lib.hid (B5.out.trans (hb6.mono B5.out.size))
          have H26 := Lib.hid (H25.out.trans (hb6.mono H25.out.size))
          clear hb6
          by_cases hf0 : f.length = 0
          · have hfi : ((f.length : Int) == 0) = true := by rw [hf0]; rfl
            go_wp2
            go_ret
            exact ⟨rfl, B6.out⟩
          · have hfi : ((f.length : Int) == 0) = false := by rw [beq_eq_false_iff_ne]; omega
            have H06 := Lib.hid (H26.out)
            clear HQE HLL HLM HLA HTK HEA HE0 HYL HYB HS4 HGO q5
            obtain ⟨j, hj⟩ : ∃ j : Nat, (j : Int) = bit % (8 * (f.length : Int)) := ⟨(bit % (8 * (f.length : Int))).toNat, by have := Int.emod_nonneg bit (show 8 * (f.length : Int) ≠ 0 by omega); omega⟩
            have hjl : j < 8 * f.length := by have := Int.emod_lt_of_pos bit (show (0 : Int) < 8 * (f.length : Int) by omega); omega
            have HJ := Lib.hid hj
            clear hj
            obtain ⟨d, hd⟩ : ∃ d, d = j / 8 := ⟨_, rfl⟩
            have hdq : (j : Int) / 8 = (d : Int) := by omega
            have hdl : d < f.length := by omega
            have HD := Lib.hid hd
            clear hd
            go_wp2_with (fail)
            refine (rest_any bit (8 * (f.length : Int)) w6 (by omega) (by omega)).mono ?_
            rintro e w7 ⟨rfl, rfl⟩
            rw [← HJ.out]
            go_wp2
            go_loopw [17] (fun i wr => ∃ s : Nat, s < m ∧ i = .int .i64 (s : Int) ∧ o s ≤ d ∧ w6 = wr) (fun i _ => m - (intOf i).toNat)
            case atStart => exact ⟨0, by have := HAL.out; rcases Nat.eq_zero_or_pos m with h | h; (rw [h] at this; omega); exact h, rfl, by omega, rfl⟩
            case round =>
              obtain ⟨s, hs, rfl, hsd, rfl⟩ := hrel
              have hsi : (s : Int) + 1 < (m : Int) + 1 := by omega
              have q1 := (H26.out.cell (p := ⟨g2, s + 1, none⟩) (World.block_lt_of_cell? _ _ (HCL.out (s + 1) hs))).trans (HCL.out (s + 1) hs)
              by_cases hgo : o (s + 1) ≤ d
              · have hgi : ((o (s + 1) : Nat) : Int) ≤ (d : Int) := by omega
                have hsm : s + 1 < m := by
                  rcases Nat.lt_or_ge (s + 1) m with h | h
                  · exact h
                  · have h1 := HAL.out
                    rw [show m = s + 1 by omega] at h1
                    omega
                go_wp2
                go_roundw
                case rel => exact ⟨s + 1, hsm, by go_num, by omega, by simp⟩
                case measure => simp [intOf]; omega
              · have hgi : ¬ ((o (s + 1) : Nat) : Int) ≤ (d : Int) := by omega
                have hea := scan_flip qs (fun p hp => by have := HSM.out p hp; omega) j s (by rw [HQL.out]; exact hs) (by rw [← HO.out, ← HD.out]; exact hsd) (by rw [← HO.out, ← HD.out]; omega)
                have htk : qs.take s = ps.take s := by rw [HQ.out, List.take_take, Nat.min_eq_left (by omega)]
                obtain ⟨e1, he1⟩ : ∃ e1 : Nat, e1 = if d - o s < 8 then 91 else 93 := ⟨_, rfl⟩
                rw [← HF.out, ← HO.out, ← HD.out, htk, ← he1] at hea
                obtain ⟨ls, hls⟩ : ∃ ls, ls = ps.take s := ⟨_, rfl⟩
                have hlsl : ls.length = s := by rw [hls, List.length_take]; omega
                have hlsm : ∀ x ∈ ls, x.length ≤ 140737488351232 := fun x hx => HPS.out x (by rw [hls] at hx; exact List.mem_of_mem_take hx)
                have hlsa : RowsAt w A ls := by rw [hls]; exact HP.out.take s
                rw [← hls] at hea
                obtain ⟨z, hz'⟩ : ∃ z, z = flip f j := ⟨_, rfl⟩
                have hzl : z.length = f.length := by rw [hz', flip_length]
                rw [← hz'] at hea
                have q2 := (H26.out.cell (p := ⟨g2, s, none⟩) (World.block_lt_of_cell? _ _ (HCL.out s (by omega)))).trans (HCL.out s (by omega))
                have HZ := Lib.hid hz'
                have HZL := Lib.hid hzl
                have HEA := Lib.hid hea
                have HE1 := Lib.hid he1
                have HLL := Lib.hid hlsl
                have HLM := Lib.hid hlsm
                have HLA := Lib.hid hlsa
                clear hea htk he1 hls hlsl hlsm hlsa hz' hzl
                go_upto_if 113 with (fail)
                go_cut [18] (fun s' wx => s' = .int .i64 (e1 : Int) ∧ w6 = wx)
                case first =>
                  by_cases h8 : d - o s < 8
                  · have hi8 : (d : Int) - ((o s : Nat) : Int) < 8 := by omega
                    have he := HE1.out
                    rw [if_pos h8] at he
                    subst he
                    go_wp2
                    go_meet
                    exact ⟨rfl, rfl⟩
                  · have hi8 : ¬ (d : Int) - ((o s : Nat) : Int) < 8 := by omega
                    have he := HE1.out
                    rw [if_neg h8] at he
                    subst he
                    go_wp2
                    go_meet
                    exact ⟨rfl, rfl⟩
                case rest =>
                  obtain ⟨rfl, rfl⟩ := hcut
                  go_wp2_with (fail)
                  refine (flipped_any A1 c1 f j w6 (HB1.out.below H26.out) HA1.out hc1 (by omega) (by omega) (by omega)).mono ?_
                  rintro e w8 ⟨v8, rfl, ho8, hb8⟩
                  rw [show ((j : Int)).toNat = j from rfl, ← HZ.out] at ho8
                  obtain ⟨hl8, A8, c8, rfl, hB8, hA8, hc8, _⟩ := own_bytes ho8
                  have B8 := Lib.hid (B6.out.trans (hb8.mono B6.out.size))
                  have H28 := Lib.hid (H26.out.trans (hb8.mono H26.out.size))
                  have HS8 := Lib.hid (scan_any A8 c8 z w8 hB8 hA8 hc8 (by rw [HZL.out]; omega) (HT.out.below B8.out))
                  have q8 := (hb8.cell (p := ⟨g2, s, none⟩) (World.block_lt_of_cell? _ _ q2)).trans q2
                  clear ho8 hb8 hB8 hA8 hl8 q2
                  go_wp2_with (fail)
                  refine HS8.out.mono ?_
                  rintro e w9 ⟨v9, rfl, ho9, hb9⟩
                  rw [HEA.out] at ho9 ⊢
                  obtain ⟨A9, c9, rfl, hR9, _, hc9, _⟩ := own_rows_shape ho9
                  rw [HLL.out]
                  have B9 := Lib.hid (B8.out.trans (hb9.mono B8.out.size))
                  have HQE := Lib.hid (eqAll_n A9 A s s c9 c ls ls w9 hR9 (HLA.out.below B9.out) (by rw [HLL.out]; omega) HLM.out HLL.out.symm HLL.out.symm)
                  have q9 := (hb9.cell (p := ⟨g2, s, none⟩) (World.block_lt_of_cell? _ _ q8)).trans q8
                  have hsc : (s : Int) ≤ (c : Int) := by omega
                  clear ho9 hb9 hR9 q8
                  go_wp2_with (fail)
                  refine HQE.out.mono ?_
                  rintro e w10 ⟨rfl, hb10⟩
                  have B10 := Lib.hid (B9.out.trans (hb10.mono B9.out.size))
                  clear hb10
                  go_wp2
                  go_ret
                  exact ⟨rfl, B10.out⟩
end Go.Proofs.YtooagpjfcnpheaaDoor
