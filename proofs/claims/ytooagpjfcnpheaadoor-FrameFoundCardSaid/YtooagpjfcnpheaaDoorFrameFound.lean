/- FrameFound: frames between stretches without c7 are all found. -/
import Derived.Test.YtooagpjfcnpheaaDoorFrameFed
import Derived.Test.YtooagpjfcnpheaaDoorLaw
namespace Go.Proofs.YtooagpjfcnpheaaDoor
open Go.RowKit

theorem fed_n (A B : Option Addr) (n m c d : Nat) (l : List UInt8) (cs : List Int) (w : World) (hl : BytesAt w A l) (hA : A = none → c = 0) (hlc : l.length ≤ c) (hn : l.length ≤ 1073741824) (hcs : IntsAt w B cs) (hcm : cs.length ≤ 140737488351232) (ht : TableAt w) (h0 : 0 < w.heap.size) (e1 : n = l.length) (e2 : m = cs.length) :
    Calls Tryd.prog 26 #[.slice A n c, .slice B m d] w (FedIs l w) := by
  subst e1 e2; exact fed_any A B c d l cs w hl hA hlc hn hcs hcm ht h0

/-- What the stream f gives, whatever stands behind it. -/
def Goes (f : List UInt8) (ws : List (List UInt8)) (n : Nat) : Prop := ∀ t, cutS (f ++ t) = (ws ++ (cutS t).1, n + (cutS t).2.1, (cutS t).2.2)
theorem Goes.nil : Goes [] [] 0 := fun t => by simp
theorem Goes.odd {f : List UInt8} {ws : List (List UInt8)} {n : Nat} (h : Goes f ws n) {x : UInt8} (hx : x ≠ 199) : Goes (f ++ [x]) ws (n + 1) := fun t => by
  rw [List.append_assoc, h, List.singleton_append, cutS_odd x t hx]
  simp [Nat.add_assoc]
theorem Goes.frame {f : List UInt8} {ws : List (List UInt8)} {n : Nat} (h : Goes f ws n) {p : List UInt8} (hp : p.length ≤ 131072) : Goes (f ++ frameB p) (ws ++ [p]) n := fun t => by
  rw [List.append_assoc, h, cutS_frame p t hp]
  simp
theorem Goes.all {f : List UInt8} {ws : List (List UInt8)} {n : Nat} (h : Goes f ws n) : cutS f = (ws, n, []) := by
  have := h []
  rw [List.append_nil, cutS_nil] at this
  simpa using this

set_option maxHeartbeats 2000000 in
set_option maxRecDepth 100000 in
theorem found_walk (A A1 B1 : Option Addr) (c c1 d1 : Nat) (ps odd : List (List UInt8)) (cs : List Int) (w : World) (hp : RowsAt w A ps) (hps : ∀ p ∈ ps, p.length ≤ 140737488351232)
    (ho : RowsAt w A1 odd) (hos : ∀ p ∈ odd, p.length ≤ 140737488351232) (hi1 : IntsAt w B1 cs) (hm1 : cs.length ≤ 140737488351232) (hT : TableAt w) :
    Calls Tryd.prog 8 #[.slice A ps.length c, .slice A1 odd.length c1, .slice B1 cs.length d1] w (Lawful w) := by
  have h0 : 0 < w.heap.size := by have := World.block_lt_of_cell? w _ (hT 0 (by omega)); exact this
  have HP := Lib.hid hp
  have HPS := Lib.hid hps
  have HOD := Lib.hid ho
  have HOS := Lib.hid hos
  have HI1 := Lib.hid hi1
  have HT := Lib.hid hT
  have HI := Lib.hid u8info
  have HII := Lib.hid bytessinfo
  obtain ⟨m1, hm1'⟩ : ∃ m1, m1 = cs.length := ⟨_, rfl⟩
  rw [← hm1'] at hm1 ⊢
  obtain ⟨np, hnp⟩ : ∃ np, np = ps.length := ⟨_, rfl⟩
  rw [← hnp]
  obtain ⟨no, hno⟩ : ∃ no, no = odd.length := ⟨_, rfl⟩
  rw [← hno]
  have HM1 := Lib.hid hm1'
  have HNP := Lib.hid hnp
  have HNO := Lib.hid hno
  clear hp hps ho hos hi1 hT hm1' hnp hno
  go_enter Tryd.func8, Tryd.ntmps8
  go_upto_block 0 with (fail)
  go_cut [7, 8, 9] (fun v u l' wr => ∃ (f : List UInt8) (ws : List (List UInt8)) (xs : List Value) (lst : Nat), l' = .int .i64 (lst : Int) ∧ Goes f ws lst ∧ lst ≤ f.length ∧ f.length ≤ 40000 ∧ ws.length ≤ 13 ∧
      wr.ownsRow w.heap.size 5 1 v f.length (vals f) ∧ wr.ownsRow w.heap.size 22 1 u ws.length xs ∧ (∀ i x, xs[i]? = some x → IsBytes w x (ws.getD i [])) ∧ (∀ p ∈ ws, p.length ≤ 140737488351232) ∧ Below w.heap.size w wr)
  case first =>
    go_wp2
    go_loopw [7, 8, 9, 10] (fun v u l' i' wr => ∃ (i : Nat) (f : List UInt8) (ws : List (List UInt8)) (xs : List Value) (lst : Nat), i ≤ 13 ∧ i' = .int .i64 (i : Int) ∧ l' = .int .i64 (lst : Int) ∧ Goes f ws lst ∧ lst ≤ f.length ∧ f.length ≤ 40000 ∧ ws.length ≤ i ∧
        wr.ownsRow w.heap.size 5 1 v f.length (vals f) ∧ wr.ownsRow w.heap.size 22 1 u ws.length xs ∧ (∀ i x, xs[i]? = some x → IsBytes w x (ws.getD i [])) ∧ (∀ p ∈ ws, p.length ≤ 140737488351232) ∧ Apart u v ∧ Below w.heap.size w wr)
      (fun _ _ _ i' _ => 14 - (intOf i').toNat)
    case atStart => exact ⟨0, [], [], [], 0, by omega, rfl, rfl, Goes.nil, Nat.le_refl _, by simp, Nat.le_refl _, ⟨rfl, .inl ⟨rfl, rfl⟩⟩, ⟨rfl, .inl ⟨rfl, rfl⟩⟩, fun i x h => (by simp at h), fun p h => (by simp at h), Apart.nil _ _ _, Below.refl _ _⟩
    case round =>
      obtain ⟨i, f, ws, xs, lst, hi, rfl, rfl, hgo, hlf, hf4, hwi, hv, hu, hxs, hws, hap, hb⟩ := hrel
      obtain ⟨_, A7, c7, rfl, _, _, _, _⟩ := own_bytes hv
      have HGO := Lib.hid hgo
      have HV := Lib.hid hv
      have HU := Lib.hid hu
      have HXS := Lib.hid hxs
      have HWS := Lib.hid hws
      have HAP := Lib.hid hap
      have HB := Lib.hid hb
      clear hgo hv hu hxs hws hap hb
      by_cases hgo : i ≤ np ∧ i ≤ 12 ∧ f.length < 16384
      · obtain ⟨g1, g2, g3⟩ := hgo
        have g1i : (i : Int) ≤ (np : Int) := by omega
        have g2i : (i : Int) ≤ 12 := by omega
        have g3i : (f.length : Int) < 16384 := by omega
        go_upto_block 2 with (fail)
        go_cut [7, 9] (fun v l' wx => ∃ (f : List UInt8) (lst : Nat), l' = .int .i64 (lst : Int) ∧ Goes f ws lst ∧ lst ≤ f.length ∧ f.length ≤ 16640 ∧
          wx.ownsRow w.heap.size 5 1 v f.length (vals f) ∧ wx.ownsRow w.heap.size 22 1 u8 ws.length xs ∧ Apart u8 v ∧ Below w.heap.size w wx)
        case first =>
          go_wp2
          go_loopw [7, 9, 11] (fun v l' k' wx => ∃ (k : Nat) (f : List UInt8) (lst : Nat), k ≤ 256 ∧ k' = .int .i64 (k : Int) ∧ l' = .int .i64 (lst : Int) ∧ Goes f ws lst ∧ lst ≤ f.length ∧ f.length ≤ 16384 + k ∧
              wx.ownsRow w.heap.size 5 1 v f.length (vals f) ∧ wx.ownsRow w.heap.size 22 1 u8 ws.length xs ∧ Apart u8 v ∧ Below w.heap.size w wx)
            (fun _ _ k' _ => 256 - (intOf k').toNat)
          case atStart => exact ⟨0, f, lst, by omega, rfl, rfl, HGO.out, hlf, by omega, HV.out, HU.out, HAP.out, HB.out⟩
          case round =>
            obtain ⟨k, f, lst, hk, rfl, rfl, hgo, hlf, hf4, hv, hu, hap, hb⟩ := hrel
            obtain ⟨_, A7, c7, rfl, _, _, _, _⟩ := own_bytes hv
            have HGO := Lib.hid hgo
            have HV := Lib.hid hv
            have HU := Lib.hid hu
            have HAP := Lib.hid hap
            have HB := Lib.hid hb
            clear hgo hv hu hap hb
            obtain ⟨p, hpp⟩ : ∃ p, p = odd.getD i [] := ⟨_, rfl⟩
            by_cases hin : i < no
            · obtain ⟨b, o, v, rfl, hb1, q0, r0⟩ := HOD.out i (by rw [← HNO.out]; exact hin)
              rw [← hpp] at r0
              obtain ⟨A0, c0, rfl, s0, s1, s2, s3⟩ := r0
              have e0 := (HB.out.cell (p := ⟨b, o + i, none⟩) hb1).trans q0
              have hini : (i : Int) < (no : Int) := by omega
              have i0 : (0 : Int) ≤ (i : Int) := by omega
              clear q0 hpp
              by_cases hkp : k < p.length
              · have hkpi : (k : Int) < (p.length : Int) := by omega
                obtain ⟨b', o', rfl, hb2, q1⟩ := s0 k hkp
                obtain ⟨x, hx⟩ : ∃ x, x = p.getD k 0 := ⟨_, rfl⟩
                rw [← hx] at q1
                have e1 := (HB.out.cell (p := ⟨b', o' + k, none⟩) hb2).trans q1
                have k0 : (0 : Int) ≤ (k : Int) := by omega
                clear q1 hx s0
                by_cases hk256 : k < 256
                · have hk256i : (k : Int) < 256 := by omega
                  by_cases hx9 : x = 199
                  · have hx9i : ((x.toNat : Int) != 199) = false := by rw [hx9]; rfl
                    go_wp2
                    go_roundw
                    case rel => exact ⟨k + 1, f, lst, by omega, by go_num, rfl, HGO.out, hlf, by omega, HV.out, HU.out, HAP.out, HB.out⟩
                    case measure => simp [intOf]; omega
                  · have hx9i : ((x.toNat : Int) != 199) = true := by
                      rw [bne_iff_ne]; intro h; exact hx9 (UInt8.toNat.inj (by rw [show (199 : UInt8).toNat = 199 from rfl]; omega))
                    have HX9 := Lib.hid hx9
                    clear hx9
                    go_wp2_with (at_builtin; refine Hid.out ?_)
                    refine Lib.hid ?_
                    refine wpList_append_at _ rfl _ _ 22 rfl w.heap.size 5 _ 1 1 Tryd.underlying22 HI.out rfl (by omega) _ f.length (vals f) rfl (HV.out.alloc _) ⟨wr.heap.size, 0, none⟩ 1 1 [.int .u8 (x.toNat : Int)] rfl rfl (World.news_of_block (cs := #[.int .u8 (x.toNat : Int)]) (t := 5) (fr := (0, 0)) (heap_alloc_new _ _)) (by simp [Value.oneCell']) (by unfold maxLen; omega) (by omega) (by have := HB.out.size; simp; omega) ?_
                    intro v10 w10 hown10 hgrow10 hat10
                    have hone : vals f ++ [.int .u8 (x.toNat : Int)] = vals (f ++ [x]) := by rw [vals_append]; rfl
                    rw [hone, show f.length + 1 = (f ++ [x]).length by rw [List.length_append]; rfl] at hown10
                    have U10 := Lib.hid (World.ownsRow.kept (HU.out.alloc _) hgrow10 HAP.out)
                    have AP10 := Lib.hid (HAP.out.grown (HU.out.alloc _) (Nat.le_refl _) hat10)
                    have B10 := Lib.hid ((HB.out.alloc HB.out.size _).grown hgrow10 (by have := HB.out.size; simp; omega) (fun q hq => own_base' HV.out q hq))
                    obtain ⟨_, A10, c10, rfl, _, _, _, _⟩ := own_bytes hown10
                    obtain ⟨f2, hf2⟩ : ∃ f2, f2 = f ++ [x] := ⟨_, rfl⟩
                    have hf2l : f2.length = f.length + 1 := by rw [hf2, List.length_append]; rfl
                    rw [← hf2] at hown10 AP10 ⊢
                    have V10 := Lib.hid hown10
                    have HF2 := Lib.hid hf2
                    have HF2L := Lib.hid hf2l
                    clear hown10 hgrow10 hat10 hone hf2 hf2l
                    go_wp2
                    go_roundw
                    case rel =>
                      have := HF2L.out
                      exact ⟨k + 1, f2, lst + 1, by omega, by go_num, by go_num, by rw [HF2.out]; exact HGO.out.odd HX9.out, by omega, by omega, V10.out, U10.out, AP10.out, B10.out⟩
                    case measure => simp [intOf]; omega
                · obtain rfl : k = 256 := by omega
                  go_wp2
                  go_meet
                  exact ⟨f, lst, rfl, HGO.out, hlf, by omega, HV.out, HU.out, HAP.out, HB.out⟩
              · have hkpi : ¬ (k : Int) < (p.length : Int) := by omega
                go_wp2
                go_meet
                exact ⟨f, lst, rfl, HGO.out, hlf, by omega, HV.out, HU.out, HAP.out, HB.out⟩
            · have hini : ¬ (i : Int) < (no : Int) := by omega
              clear hpp
              go_wp2
              go_meet
              exact ⟨f, lst, rfl, HGO.out, hlf, by omega, HV.out, HU.out, HAP.out, HB.out⟩
        case rest =>
          obtain ⟨f, lst, rfl, hgo, hlf, hf4, hv, hu, hap, hb⟩ := hcut
          obtain ⟨_, A7, c7, rfl, _, _, _, _⟩ := own_bytes hv
          have HGO := Lib.hid hgo
          have HV := Lib.hid hv
          have HU := Lib.hid hu
          have HAP := Lib.hid hap
          have HB := Lib.hid hb
          clear hgo hv hu hap hb
          obtain ⟨p, hpp⟩ : ∃ p, p = ps.getD i [] := ⟨_, rfl⟩
          by_cases hgo : i < np ∧ i < 12 ∧ p.length ≤ 16384
          · obtain ⟨hin, hi12, hpl⟩ := hgo
            obtain ⟨b, o, v, rfl, hb1, q0, r0⟩ := HP.out i (by rw [← HNP.out]; exact hin)
            rw [← hpp] at r0
            have hvb := r0
            obtain ⟨A0, c0, rfl, s0, s1, s2, s3⟩ := r0
            have HVB := Lib.hid hvb
            have e0 := (HB.out.cell (p := ⟨b, o + i, none⟩) hb1).trans q0
            have hini : (i : Int) < (np : Int) := by omega
            have hi12i : (i : Int) < 12 := by omega
            have hpli : (p.length : Int) ≤ 16384 := by omega
            have i0 : (0 : Int) ≤ (i : Int) := by omega
            have HWR := Lib.hid (wrapped_any A0 c0 p wc (s0.below HB.out) s1 s2 (by omega) (HT.out.below HB.out))
            clear q0 hpp s0 s1 hvb
            go_wp2_with (fail)
            refine HWR.out.mono ?_
            rintro e w8 ⟨v8, rfl, ho8, hb8⟩
            obtain ⟨g, hg⟩ : ∃ g, g = frameB p := ⟨_, rfl⟩
            have hgl : g.length = 12 + p.length := by rw [hg, frameB_length]
            rw [← hg] at ho8
            obtain ⟨_, A8, c8, rfl, hB8, hA8, hc8, _⟩ := own_bytes ho8
            have V8 := Lib.hid (own_kept HV.out hb8)
            have U8 := Lib.hid (own_kept HU.out hb8)
            have B8 := Lib.hid (HB.out.trans (hb8.mono HB.out.size))
            have E8 := (hb8.cell (p := ⟨b, o + i, none⟩) (World.block_lt_of_cell? _ _ e0)).trans e0
            have HB8 := Lib.hid hB8
            have HA8 := Lib.hid hA8
            have HG := Lib.hid hg
            have HGL := Lib.hid hgl
            have hgl2 : g.length ≤ 16396 := by omega
            clear ho8 hb8 hB8 hA8 hg hgl e0
            go_wp2_with (at_builtin; refine Hid.out ?_)
            refine Lib.hid ?_
            refine wpList_append_src _ rfl _ _ 22 rfl w.heap.size 5 _ 1 1 Tryd.underlying22 HI.out rfl (by omega) _ f.length (vals f) rfl V8.out A8 g.length c8 (vals g) rfl (by rw [vals_length]; omega) (fun h => by have := HA8.out h; omega) (bytes_news HB8.out) (vals_one g) (by unfold maxLen; omega) (by omega) B8.out.size ?_
            intro v10 w10 hown10 hgrow10 hat10
            have B10 := Lib.hid (B8.out.grown hgrow10 B8.out.size (fun q hq => own_base' V8.out q hq))
            have U10 := Lib.hid (World.ownsRow.kept U8.out hgrow10 HAP.out)
            have N10 := Lib.hid (Apart.grown HAP.out U8.out (Nat.le_refl _) hat10)
            have E10 : w10.cell? ⟨b, o + i, none⟩ = some (.slice A0 p.length c0) := (B10.out.cell (p := ⟨b, o + i, none⟩) hb1).trans ((B8.out.cell (p := ⟨b, o + i, none⟩) hb1).symm.trans E8)
            rw [← vals_append] at hown10
            have hfl10 : f.length + g.length = (f ++ g).length := by rw [List.length_append]
            rw [hfl10] at hown10
            obtain ⟨_, A10, c10, rfl, _, _, _, _⟩ := own_bytes hown10
            have V10 := Lib.hid hown10
            obtain ⟨z, hz⟩ : ∃ z, z = f ++ g := ⟨_, rfl⟩
            rw [← hz] at V10 N10 hfl10 ⊢
            have HZ := Lib.hid hz
            clear hown10 hgrow10 hat10 hz E8
            go_wp2_with (at_builtin; refine Hid.out ?_)
            refine Lib.hid ?_
            refine wpList_append_at _ rfl _ _ 32 rfl w.heap.size 22 _ 1 24 Tryd.underlying32 HII.out rfl (by omega) _ ws.length xs rfl (U10.out.alloc _) ⟨w10.heap.size, 0, none⟩ 1 1 [.slice A0 p.length c0] rfl rfl (World.news_of_block (cs := #[.slice A0 p.length c0]) (t := 22) (fr := (0, 0)) (heap_alloc_new w10 _)) (by simp [Value.oneCell']) (by unfold maxLen; omega) (by omega) (by have := B10.out.size; simp; omega) ?_
            intro v11 w11 hown11 hgrow11 hat11
            have B11 := Lib.hid ((B10.out.alloc B10.out.size _).grown hgrow11 (by have := B10.out.size; simp; omega) (fun q hq => own_base' U10.out q hq))
            have V11 := Lib.hid (World.ownsRow.kept (V10.out.alloc _) hgrow11 N10.out.symm)
            have N11 := Lib.hid (Apart.grown N10.out.symm (V10.out.alloc _) (Nat.le_refl _) hat11).symm
            have O11 := Lib.hid hown11
            clear hown11 hgrow11 hat11 E10
            go_wp2
            go_roundw
            case rel =>
              refine ⟨i + 1, z, ws ++ [p], _, lst, by omega, by go_num, rfl, by rw [HZ.out, HG.out]; exact HGO.out.frame (by omega), by omega, by omega, by rw [List.length_append]; exact Nat.succ_le_succ hwi, V11.out, by rw [List.length_append]; exact O11.out, rows_snoc (by have := HU.out.1; omega) HXS.out HVB.out, ?_, N11.out, B11.out⟩
              intro q hq
              rcases List.mem_append.1 hq with h | h
              · exact HWS.out q h
              · rw [List.mem_singleton.1 h]; omega
            case measure => simp [intOf]; omega
          · have HGN := Lib.hid hgo
            clear hgo
            go_upto_region 13 with (fail)
            go_cut [86] (fun s wx => s = .bool false ∧ wc = wx)
            case first =>
              by_cases hin : i < np
              · have hini : (i : Int) < (np : Int) := by omega
                by_cases hi12 : i < 12
                · have hi12i : (i : Int) < 12 := by omega
                  obtain ⟨b, o, v, rfl, hb1, q0, r0⟩ := HP.out i (by rw [← HNP.out]; exact hin)
                  rw [← hpp] at r0
                  obtain ⟨A0, c0, rfl, s0, s1, s2, s3⟩ := r0
                  have e0 := (HB.out.cell (p := ⟨b, o + i, none⟩) hb1).trans q0
                  have hpli : ¬ (p.length : Int) ≤ 16384 := fun h => HGN.out ⟨hin, hi12, by omega⟩
                  have i0 : (0 : Int) ≤ (i : Int) := by omega
                  clear q0 hpp s0 s1
                  go_wp2
                  go_meet
                  exact ⟨rfl, rfl⟩
                · have hi12i : ¬ (i : Int) < 12 := by omega
                  clear hpp
                  go_wp2
                  go_meet
                  exact ⟨rfl, rfl⟩
              · have hini : ¬ (i : Int) < (np : Int) := by omega
                clear hpp
                go_wp2
                go_meet
                exact ⟨rfl, rfl⟩
            case rest =>
              obtain ⟨rfl, rfl⟩ := hcut
              clear hpp
              go_wp2
              go_roundw
              case rel => exact ⟨i + 1, f, ws, xs, lst, by omega, by go_num, rfl, HGO.out, hlf, by omega, by omega, HV.out, HU.out, HXS.out, HWS.out, HAP.out, HB.out⟩
              case measure => simp [intOf]; omega
      · have HGN := Lib.hid hgo
        clear hgo
        go_upto_region 5 with (fail)
        go_cut [29] (fun s wx => s = .bool false ∧ wr = wx)
        case first =>
          by_cases g1 : i ≤ np
          · have g1i : (i : Int) ≤ (np : Int) := by omega
            by_cases g2 : i ≤ 12
            · have g2i : (i : Int) ≤ 12 := by omega
              have g3i : ¬ (f.length : Int) < 16384 := fun h => HGN.out ⟨g1, g2, by omega⟩
              go_wp2
              go_meet
              exact ⟨rfl, rfl⟩
            · have g2i : ¬ (i : Int) ≤ 12 := by omega
              go_wp2
              go_meet
              exact ⟨rfl, rfl⟩
          · have g1i : ¬ (i : Int) ≤ (np : Int) := by omega
            go_wp2
            go_meet
            exact ⟨rfl, rfl⟩
        case rest =>
          obtain ⟨rfl, rfl⟩ := hcut
          go_wp2
          go_meet
          exact ⟨f, ws, xs, lst, rfl, HGO.out, hlf, hf4, by omega, HV.out, HU.out, HXS.out, HWS.out, HB.out⟩
  case rest =>
    obtain ⟨f, ws, xs, lst, rfl, hgo, hlf, hf4, hw13, hv, hu, hxs, hws, hb⟩ := hcut
    have hcut := hgo.all
    obtain ⟨_, A7, c7, rfl, hB7, hA7, hc7, _⟩ := own_bytes hv
    have hrow : OwnRows wc w.heap.size 22 u8 ws := ⟨xs, hu, fun i x h => (hxs i x h).below hb⟩
    have HR := Lib.hid hrow
    have HCUT := Lib.hid hcut
    have HWS := Lib.hid hws
    have HB := Lib.hid hb
    have HFD := Lib.hid (fed_n A7 B1 f.length m1 c7 d1 f cs wc hB7 hA7 hc7 (by omega) (HI1.out.below hb) (by rw [← HM1.out]; exact hm1) (HT.out.below hb) (by have := hb.size; omega) rfl HM1.out)
    clear hgo hv hu hxs hws hb hB7 hA7 hrow hcut
    go_wp2_with (fail)
    refine HFD.out.mono ?_
    rintro e w5 ⟨v5, hv5, g5, rfl, ho5, hs5, hb5⟩
    rw [HCUT.out] at ho5 hs5
    have P5 := Lib.hid (HB.out.trans (hb5.mono HB.out.size))
    have S5 := Lib.hid hs5
    obtain ⟨A8, c8, rfl, hR8, _, _, _⟩ := own_rows_shape (HR.out.later hb5)
    obtain ⟨A5, c5, rfl, hR5, _, _, _⟩ := own_rows_shape ho5
    have HQE := Lib.hid (eqAll_any A5 A8 c5 c8 ws ws w5 hR5 hR8 (by omega) HWS.out)
    clear ho5 hs5 hb5 hR5 hR8
    go_wp2_with (fail)
    refine HQE.out.mono ?_
    rintro e w6 ⟨rfl, hb6⟩
    have P6 := Lib.hid (P5.out.trans (hb6.mono P5.out.size))
    have HH6 := Lib.hid (held_any w6 _ _ _ _ _ (S5.out.kept hb6))
    have HL6 := Lib.hid (lost_any w6 _ _ _ _ _ (S5.out.kept hb6))
    clear hb6
    go_wp2_with (fail)
    refine HH6.out.mono ?_
    rintro e w7 ⟨rfl, rfl⟩
    go_wp2_with (fail)
    refine HL6.out.mono ?_
    rintro e w7 ⟨rfl, rfl⟩
    go_wp2
    go_ret
    exact ⟨rfl, P6.out⟩
end Go.Proofs.YtooagpjfcnpheaaDoor
