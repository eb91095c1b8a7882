/- FramePieces: how a stream is cut into pieces isn't seen; no byte is forgotten; the frames ahead of the first fault are told. -/
import Derived.Test.YtooagpjfcnpheaaDoorFrameFed
import Derived.Test.YtooagpjfcnpheaaDoorFrameStream
import Derived.Test.YtooagpjfcnpheaaDoorLaw
namespace Go.Proofs.YtooagpjfcnpheaaDoor
open Go.RowKit

theorem eqAll_n (A B : Option Addr) (n m' c d : Nat) (l m : List (List UInt8)) (w : World) (hl : RowsAt w A l) (hm : RowsAt w B m) (hn : l.length ≤ 140737488351232) (hnl : ∀ x ∈ l, x.length ≤ 140737488351232) (e1 : n = l.length) (e2 : m' = m.length) :
    Calls Tryd.prog 19 #[.slice A n c, .slice B m' d] w fun e w' => e = .returned (.bool (decide (l = m))) ∧ Below w.heap.size w w' := by
  subst e1 e2; exact eqAll_any A B c d l m w hl hm hn hnl
theorem fed_n (A B : Option Addr) (n m c d : Nat) (l : List UInt8) (cs : List Int) (w : World) (hl : BytesAt w A l) (hA : A = none → c = 0) (hlc : l.length ≤ c) (hn : l.length ≤ 1073741824) (hcs : IntsAt w B cs) (hcm : cs.length ≤ 140737488351232) (ht : TableAt w) (h0 : 0 < w.heap.size) (e1 : n = l.length) (e2 : m = cs.length) :
    Calls Tryd.prog 26 #[.slice A n c, .slice B m d] w (FedIs l w) := by
  subst e1 e2; exact fed_any A B c d l cs w hl hA hlc hn hcs hcm ht h0
theorem cutS_lens (l : List UInt8) : ∀ p ∈ (cutS l).1, p.length ≤ l.length := by
  intro p hp
  have h1 := cutS_count l.length l (Nat.le_refl _)
  obtain ⟨i, hi, rfl⟩ := List.mem_iff_getElem.1 hp
  have h2 := congrArg List.length (frames_split (cutS l).1 i hi)
  simp only [List.length_append, frameB_length] at h2
  rw [List.getD_eq_getElem?_getD, List.getElem?_eq_getElem hi, Option.getD_some] at h2
  omega
theorem scan_frames' (ps : List (List UInt8)) (h : ∀ p ∈ ps, p.length ≤ 131072) : scan (framesB ps) = (ps, (framesB ps).length, 0) := by
  have := scan_frames ps [] h
  rw [List.append_nil, scan_nil, List.append_nil] at this
  exact this

theorem offB_le2 (ps : List (List UInt8)) (i : Nat) : offB ps i ≤ (framesB ps).length := by
  unfold offB
  conv => rhs; rw [← List.take_append_drop i ps, framesB_append, List.length_append]
  omega

set_option maxHeartbeats 2000000 in
set_option maxRecDepth 100000 in
theorem pieces_walk (A A1 B1 B2 : Option Addr) (c c1 d1 d2 : Nat) (ps : List (List UInt8)) (odd : List UInt8) (cs1 cs2 : List Int) (w : World) (hp : RowsAt w A ps) (hps : ∀ p ∈ ps, p.length ≤ 140737488351232)
    (ho : BytesAt w A1 odd) (hA1 : A1 = none → c1 = 0) (hoc : odd.length ≤ c1) (hon : odd.length ≤ 140737488351232) (hi1 : IntsAt w B1 cs1) (hi2 : IntsAt w B2 cs2) (hm1 : cs1.length ≤ 140737488351232) (hm2 : cs2.length ≤ 140737488351232) (hT : TableAt w) :
    Calls Tryd.prog 10 #[.slice A ps.length c, .slice A1 odd.length c1, .slice B1 cs1.length d1, .slice B2 cs2.length d2] w (Lawful w) := by
  have h0 : 0 < w.heap.size := by have := World.block_lt_of_cell? w _ (hT 0 (by omega)); exact this
  have HST := Lib.hid (stream_any A c ps w hp hps hT)
  have HOD := Lib.hid ho
  have HA1 := Lib.hid hA1
  have HI1 := Lib.hid hi1
  have HI2 := Lib.hid hi2
  have HT := Lib.hid hT
  have HI := Lib.hid u8info
  obtain ⟨m1, hm1'⟩ : ∃ m1, m1 = cs1.length := ⟨_, rfl⟩
  obtain ⟨m2, hm2'⟩ : ∃ m2, m2 = cs2.length := ⟨_, rfl⟩
  rw [← hm1'] at hm1 ⊢
  rw [← hm2'] at hm2 ⊢
  have HM1 := Lib.hid hm1'
  have HM2 := Lib.hid hm2'
  clear hp hps ho hA1 hi1 hi2 hT hm1' hm2'
  go_enter Tryd.func10, Tryd.ntmps10
  go_wp2_with (fail)
  refine HST.out.mono ?_
  rintro e w2 ⟨m, v1, v2, rfl, hm1', hm12, hsm, ho1, _, hb2⟩
  obtain ⟨qs, hqs⟩ : ∃ qs, qs = ps.take m := ⟨_, rfl⟩
  have hql : qs.length = m := by rw [hqs, List.length_take]; omega
  rw [← hqs] at ho1 hsm
  have hfl := framesB_le qs hsm
  obtain ⟨f, hf⟩ : ∃ f, f = framesB qs := ⟨_, rfl⟩
  rw [← hf] at ho1 hfl
  have hL : f.length ≤ 196752 := by omega
  have hsf := scan_frames' qs (fun p hp => by have := hsm p hp; omega)
  rw [← hf] at hsf
  obtain ⟨_, A2, c2, rfl, hB2, hA2, hc2, _⟩ := own_bytes ho1
  have HSF := Lib.hid hsf
  have HB2 := Lib.hid hB2
  have HA2 := Lib.hid hA2
  have P2 := Lib.hid hb2
  have HF := Lib.hid hf
  have HSM := Lib.hid hsm
  clear hqs hsm hf hsf hB2 hA2 hb2 ho1 hfl hql HST
  go_upto_if 37 with (fail)
  obtain ⟨tl, htl⟩ : ∃ tl, tl = odd.take 16384 := ⟨_, rfl⟩
  have htll : tl.length ≤ 16384 := by rw [htl, List.length_take]; omega
  have HTL := Lib.hid htl
  clear htl
  go_cut [12] (fun s wx => s = .slice A1 tl.length c1 ∧ w2 = wx)
  case first =>
    by_cases hbig : 16384 < odd.length
    · have hbi : (16384 : Int) < (odd.length : Int) := by omega
      have htl2 : tl.length = 16384 := by rw [HTL.out, List.length_take]; omega
      have HT2 := Lib.hid htl2
      have hci : (16384 : Int) ≤ (c1 : Int) := by omega
      clear htl2
      go_wp2
      go_meet
      exact ⟨by rw [HT2.out], rfl⟩
    · have hbi : ¬ (16384 : Int) < (odd.length : Int) := by omega
      have htl2 : tl.length = odd.length := by rw [HTL.out, List.length_take]; omega
      have HT2 := Lib.hid htl2
      clear htl2
      go_wp2
      go_meet
      exact ⟨by rw [HT2.out], rfl⟩
  case rest =>
    obtain ⟨rfl, rfl⟩ := hcut
    have htc : tl.length ≤ c1 := by have := congrArg List.length HTL.out; rw [List.length_take] at this; omega
    have HTB := Lib.hid (show BytesAt w2 A1 tl by rw [HTL.out]; exact (HOD.out.take _).below P2.out)
    go_wp2_with (fail)
    refine (copied_any A2 c2 f w2 HB2.out HA2.out hc2 (by omega)).mono ?_
    rintro e w3 ⟨v3, rfl, ho3, hb3⟩
    have O3 := Lib.hid ho3
    have P3 := Lib.hid (P2.out.trans (hb3.mono P2.out.size))
    have Q3 := Lib.hid hb3
    have HTB3 := Lib.hid (HTB.out.below hb3)
    clear ho3 hb3
    go_wp2_with (at_builtin; refine Hid.out ?_)
    refine Lib.hid ?_
    refine wpList_append_src _ rfl _ _ 22 rfl w2.heap.size 5 _ 1 1 Tryd.underlying22 HI.out rfl (by omega) v3 f.length (vals f) rfl O3.out A1 tl.length c1 (vals tl) rfl (by rw [vals_length]; omega) (fun h => by have := HA1.out h; omega) (bytes_news HTB3.out) (vals_one tl) (by unfold maxLen; omega) (by omega) Q3.out.size ?_
    intro v4 w4 hown4 hgrow4 _
    rw [← vals_append] at hown4
    obtain ⟨z, hz⟩ : ∃ z, z = f ++ tl := ⟨_, rfl⟩
    have hzl : f.length + tl.length = z.length := by rw [hz, List.length_append]
    rw [← hz, hzl] at hown4
    have hzb : z.length ≤ 213136 := by omega
    have Q4 := Lib.hid (Q3.out.grown hgrow4 Q3.out.size (fun k hk => own_base' O3.out k hk))
    have P4 := Lib.hid (P2.out.trans (Q4.out.mono P2.out.size))
    obtain ⟨_, A4, c4, rfl, hB4, hA4, hc4, _⟩ := own_bytes hown4
    have HB4 := Lib.hid hB4
    have HA4 := Lib.hid hA4
    have HZ := Lib.hid hz
    have h04 : 0 < w4.heap.size := by have := P4.out.size; omega
    clear hown4 hgrow4 hB4 hA4 hz hzl
    have hcnt := cutS_count z.length z (Nat.le_refl _)
    have hfew := cutS_few z
    obtain ⟨sr, hsr⟩ := scan_cutS z.length z (Nat.le_refl _)
    have hscq : (scan z).1 = qs ++ (scan tl).1 := by rw [HZ.out, HF.out, scan_frames qs tl (fun p hp => by have := HSM.out p hp; omega)]
    have hlens := cutS_lens z
    obtain ⟨X, hX⟩ : ∃ X, X = (cutS z).1 := ⟨_, rfl⟩
    obtain ⟨S, hS⟩ : ∃ S, S = (scan z).1 := ⟨_, rfl⟩
    obtain ⟨H, hH⟩ : ∃ H, H = (cutS z).2.2.length := ⟨_, rfl⟩
    obtain ⟨L, hL'⟩ : ∃ L, L = (cutS z).2.1 := ⟨_, rfl⟩
    rw [← hX, ← hL', ← hH] at hcnt hfew
    rw [← hX, ← hS] at hsr
    rw [← hS] at hscq
    rw [← hX] at hlens
    have hXS : S.length ≤ X.length := by rw [hsr, List.length_append]; omega
    have hSX : X.take S.length = S := by rw [hsr, List.take_left]
    have hSq : qs.length ≤ S.length := by rw [hscq, List.length_append]; omega
    have HX := Lib.hid hX
    have HS := Lib.hid hS
    have HH := Lib.hid hH
    have HL := Lib.hid hL'
    have HSX := Lib.hid hSX
    have HCNT := Lib.hid hcnt
    have HLENS := Lib.hid hlens
    clear hX hS hH hL' hSX hcnt hsr hscq hlens
    go_wp2_with (fail)
    refine (fed_n A4 B1 z.length m1 c4 d1 z cs1 w4 HB4.out HA4.out hc4 (by omega) (HI1.out.below P4.out) (by rw [← HM1.out]; exact hm1) (HT.out.below P4.out) h04 rfl HM1.out).mono ?_
    rintro e w5 ⟨v5, hv5, g5, rfl, ho5, hs5, hb5⟩
    rw [← HX.out] at ho5
    rw [← HL.out] at hs5
    have P5 := Lib.hid (P4.out.trans (hb5.mono P4.out.size))
    have Q5 := Lib.hid hb5
    have O5 := Lib.hid ho5
    have S5 := Lib.hid hs5
    clear ho5 hs5 hb5
    go_wp2_with (fail)
    refine (fed_n A4 B2 z.length m2 c4 d2 z cs2 w5 (HB4.out.below Q5.out) HA4.out hc4 (by omega) (HI2.out.below P5.out) (by rw [← HM2.out]; exact hm2) (HT.out.below P5.out) (by have := P5.out.size; omega) rfl HM2.out).mono ?_
    rintro e w6 ⟨v6, hv6, g6, rfl, ho6, hs6, hb6⟩
    rw [← HX.out] at ho6
    rw [← HL.out] at hs6
    have P6 := Lib.hid (P5.out.trans (hb6.mono P5.out.size))
    have Q6 := Lib.hid (Q5.out.trans (hb6.mono Q5.out.size))
    have O56 := Lib.hid (O5.out.later hb6)
    have S56 := Lib.hid (S5.out.kept hb6)
    have S6 := Lib.hid hs6
    obtain ⟨A6, c6, rfl, hR6, hA6, hc6, _⟩ := own_rows_shape ho6
    obtain ⟨A5, c5, rfl, hR5, hA5, hc5, _⟩ := own_rows_shape O56.out
    have HQE := Lib.hid (eqAll_any A5 A6 c5 c6 X X w6 hR5 hR6 (by omega) (fun x hx => by have := HLENS.out x hx; omega))
    clear ho6 hs6 hb6 hR5 hR6 hA5 hA6
    go_wp2_with (fail)
    refine HQE.out.mono ?_
    rintro e w7 ⟨rfl, hb7⟩
    have P7 := Lib.hid (P6.out.trans (hb7.mono P6.out.size))
    have Q7 := Lib.hid (Q6.out.trans (hb7.mono Q6.out.size))
    have O57 := Lib.hid (O56.out.later hb7)
    have HH5 := held_any w7 _ _ _ _ _ (S56.out.kept hb7)
    have HH6 := held_any w7 _ _ _ _ _ (S6.out.kept hb7)
    have HL5 := Lib.hid (lost_any w7 _ _ _ _ _ (S56.out.kept hb7))
    have HL6 := Lib.hid (lost_any w7 _ _ _ _ _ (S6.out.kept hb7))
    rw [← HH.out] at HH5 HH6
    have HH5 := Lib.hid HH5
    have HH6 := Lib.hid HH6
    have S57 := Lib.hid (S56.out.kept hb7)
    clear hb7
    go_wp2_with (fail)
    refine HH5.out.mono ?_
    rintro e w8 ⟨rfl, rfl⟩
    go_wp2_with (fail)
    refine HH6.out.mono ?_
    rintro e w8 ⟨rfl, rfl⟩
    go_wp2_with (fail)
    refine HL5.out.mono ?_
    rintro e w8 ⟨rfl, rfl⟩
    go_wp2_with (fail)
    refine HL6.out.mono ?_
    rintro e w8 ⟨rfl, rfl⟩
    have HSC := Lib.hid (scan_any A4 c4 z w7 (HB4.out.below Q7.out) HA4.out hc4 (by omega) (HT.out.below P7.out))
    go_wp2_with (fail)
    refine HSC.out.mono ?_
    rintro e w9 ⟨v9, rfl, ho9, hb9⟩
    rw [← HS.out] at ho9
    obtain ⟨A9, c9, rfl, hR9, _, hc9, _⟩ := own_rows_shape ho9
    have P9 := Lib.hid (P7.out.trans (hb9.mono P7.out.size))
    have Q9 := Lib.hid (Q7.out.trans (hb9.mono Q7.out.size))
    have R5 := (O57.out.later hb9)
    have S59 := Lib.hid (S57.out.kept hb9)
    obtain ⟨A5', c5', hAe, hR5, _, _, _⟩ := own_rows_shape R5
    cases hAe
    have HQS := Lib.hid (eqAll_n A9 A5 S.length S.length c9 c5 S S w9 hR9 (by have := hR5.take S.length; rw [HSX.out] at this; exact this) (by omega) (fun x hx => by have h1 := HSX.out; rw [← h1] at hx; have := HLENS.out x (List.mem_of_mem_take hx); omega) rfl rfl)
    have hgt : ¬ (X.length : Int) < (S.length : Int) := by omega
    have hsc5 : (S.length : Int) ≤ (c5 : Int) := by omega
    have R5' := Lib.hid R5
    clear ho9 hb9 hR9 hR5 R5
    go_wp2_with (fail)
    refine HQS.out.mono ?_
    rintro e w10 ⟨rfl, hb10⟩
    have P10 := Lib.hid (P9.out.trans (hb10.mono P9.out.size))
    have Q10 := Lib.hid (Q9.out.trans (hb10.mono Q9.out.size))
    have R10 := (R5'.out.later hb10)
    have S510 := S59.out.kept hb10
    have HH10 := held_any w10 _ _ _ _ _ S510
    rw [← HH.out] at HH10
    have HL10 := Lib.hid (lost_any w10 _ _ _ _ _ S510)
    have HH10 := Lib.hid HH10
    obtain ⟨A5', c5', hAe, hR10, _, _, _⟩ := own_rows_shape R10
    cases hAe
    have HR10 := Lib.hid hR10
    clear hb10 R10 S510 hR10
    go_wp2_with (fail)
    refine HH10.out.mono ?_
    rintro e w11 ⟨rfl, rfl⟩
    go_wp2_with (fail)
    refine HL10.out.mono ?_
    rintro e w11 ⟨rfl, rfl⟩
    go_wp2
    go_loopw [21, 22] (fun n i wr => ∃ (k q : Nat), k ≤ X.length ∧ i = .int .i64 (k : Int) ∧ n = .int .i64 (q : Int) ∧ q = H + L + (framesB (X.take k)).length ∧ w10 = wr) (fun _ i _ => X.length - (intOf i).toNat)
    case atStart => exact ⟨0, H + L, Nat.zero_le _, rfl, by congr 1, by simp [framesB_nil], rfl⟩
    case round =>
      obtain ⟨k, q, hk, rfl, rfl, hq, rfl⟩ := hrel
      have HQ := Lib.hid hq
      clear hq
      by_cases hlt : k < X.length
      · obtain ⟨b, o, v, rfl, hbw, q0, r0⟩ := HR10.out k hlt
        obtain ⟨x, hx⟩ : ∃ x, x = X.getD k [] := ⟨_, rfl⟩
        rw [← hx] at r0
        obtain ⟨Ax, cx, rfl, _, _, _, _⟩ := r0
        have hxm : x ∈ X := by rw [hx, List.getD_eq_getElem?_getD, List.getElem?_eq_getElem hlt]; exact List.getElem_mem hlt
        have hxl := HLENS.out x hxm
        have hqq : q + 12 + x.length = H + L + (framesB (X.take (k + 1))).length := by
          rw [List.take_add_one, List.getElem?_eq_getElem hlt, Option.toList_some, framesB_append, framesB_one, List.length_append, frameB_length, HQ.out]
          have : x = X[k] := by rw [hx, List.getD_eq_getElem?_getD, List.getElem?_eq_getElem hlt]; rfl
          rw [this]; omega
        have hqb : q ≤ 213136 := by
          have h1 := offB_le2 X k
          unfold offB at h1
          have := HCNT.out
          have := HQ.out
          omega
        have HX' := Lib.hid hx
        have HQQ := Lib.hid hqq
        have i0 : (0 : Int) ≤ (k : Int) := by omega
        have i1 : (k : Int) < (X.length : Int) := by omega
        clear hx hxm hqq
        go_wp2
        go_roundw
        case rel => exact ⟨k + 1, q + 12 + x.length, by omega, by go_num, by go_num, HQQ.out, by simp⟩
        case measure => simp [intOf]; omega
      · obtain rfl : k = X.length := by omega
        have hqz : q = z.length := by
          have := HQ.out
          have := HCNT.out
          rw [List.take_length] at *
          omega
        subst hqz
        have HSB := Lib.hid (scan_any A2 c2 f w10 (HB2.out.below (show Below w2.heap.size w2 w10 from Q4.out.trans (Q10.out.mono Q4.out.size))) HA2.out hc2 (by omega) (HT.out.below P10.out))
        go_wp2_with (fail)
        refine HSB.out.mono ?_
        rintro e w12 ⟨v12, rfl, ho12, hb12⟩
        rw [HSF.out] at ho12 ⊢
        obtain ⟨A12, c12, rfl, _, _, _, _⟩ := own_rows_shape ho12
        have P12 := Lib.hid (P10.out.trans (hb12.mono P10.out.size))
        have hge : decide ((qs.length : Int) ≤ (S.length : Int)) = true := decide_eq_true (by omega)
        clear ho12 hb12
        go_wp2
        go_ret
        exact ⟨rfl, P12.out⟩
end Go.Proofs.YtooagpjfcnpheaaDoor
