/- FrameGreat: a payload of any length that may be, fed in three pieces, comes out whole; until then all is held, nothing lost. -/
import Derived.Test.YtooagpjfcnpheaaDoorFrameFed
import Derived.Test.YtooagpjfcnpheaaDoorFrameWrap
import Derived.Test.YtooagpjfcnpheaaDoorLaw
import Derived.Deep.OwnRows
namespace Go.Proofs.YtooagpjfcnpheaaDoor
open Go.RowKit

theorem cutS_part (l t : List UInt8) (h : l.length ≤ 131072) (k : Nat) (hk : k < 12 + l.length) : cutS ((frameB l ++ t).take k) = ([], 0, (frameB l ++ t).take k) := by
  rw [List.take_append_of_le_length (by rw [frameB_length]; omega)]
  exact cutS_short (by rw [ends_cut l k h hk])
theorem cutS_two (l s : List UInt8) (h : l.length ≤ 131072) (hs : s.length ≤ 131072) : cutS (frameB l ++ frameB s) = ([l, s], 0, []) := by
  have h1 := cutS_frame l (frameB s) h
  have h2 := cutS_frame s [] hs
  rw [List.append_nil, cutS_nil] at h2
  rw [h1, h2]

/-- A byte is put into a row of the call's own. -/
theorem store_any {w : World} {base : Nat} {e : TypeId} {g n cap k : Nat} {l : List UInt8} (h : w.ownsRow base e 1 (.slice (some ⟨g, 0, none⟩) n cap) n (vals l)) {x : Int} (h0 : 0 ≤ x) (h1 : x < 256) :
    ∃ l', l'.length = l.length ∧ (w.setCell ⟨g, k, none⟩ (.int .u8 x)).ownsRow base e 1 (.slice (some ⟨g, 0, none⟩) n cap) n (vals l') := by
  refine ⟨l.set k (UInt8.ofNat x.toNat), by simp, ?_⟩
  have h2 := (h.stored k (.int .u8 x)).1
  have hx : (Value.int .u8 x) = u8 (UInt8.ofNat x.toNat) := by
    unfold u8
    rw [UInt8.toNat_ofNat']
    congr 1
    omega
  have hs : (vals l).set k (.int .u8 x) = vals (l.set k (UInt8.ofNat x.toNat)) := by rw [hx, ← vals_set]
  rw [hs] at h2
  exact h2

theorem eq_n (A B : Option Addr) (n n' c d : Nat) (l m : List UInt8) (w : World) (hl : BytesAt w A l) (hm : BytesAt w B m) (hn : l.length ≤ 140737488351232) (e1 : n = l.length) (e2 : n' = m.length) :
    Calls Tryd.prog 23 #[.slice A n c, .slice B n' d] w fun e w' => e = .returned (.bool (decide (l = m))) ∧ Below w.heap.size w w' := by subst e1 e2; exact eq_any A B c d l m w hl hm hn
theorem wrapped_n (A : Option Addr) (n c : Nat) (p : List UInt8) (w : World) (hl : BytesAt w A p) (hA : A = none → c = 0) (hlc : p.length ≤ c) (hn : p.length ≤ 131072) (ht : TableAt w) (e : n = p.length) :
    Calls Tryd.prog 21 #[.slice A n c] w (Wrapped p w) := by subst e; exact wrapped_any A c p w hl hA hlc hn ht

/-- A row of bytes that lies apart from what a splitter holds outlives Feed. -/
theorem feed_keeps {w w' : World} {base base' g n : Nat} {hv hv' v : Value} {held l : List UInt8} {lost : Nat} {S : Nat → Prop} (hS : SplitAt w base g hv held lost) (ho : w.ownsRow base' 5 1 v n (vals l)) (ha : Apart v hv)
    (hc : Chg S w w') (hs : ∀ k, S k → k = g ∨ hv.ownBlock = some k) (hf : ∀ k, hv'.ownBlock = some k → w.heap.size ≤ k) : w'.ownsRow base' 5 1 v n (vals l) ∧ Apart v hv' := by
  refine ⟨own_chg ho hc fun k hk hsk => ?_, Apart.fresh ho hf⟩
  rcases hs k hsk with h | h
  · exact own_ne ho hS.1 (by decide) (by rw [hk, h])
  · exact ha.ne k hk h
theorem Chg.splitBelow {w w' : World} {base g B : Nat} {hv : Value} {held : List UInt8} {lost : Nat} (hS : SplitAt w base g hv held lost) (hc : Chg (fun k => k = g ∨ hv.ownBlock = some k) w w') (hB : B ≤ base) (hw : base ≤ w.heap.size) : Below B w w' :=
  hc.toBelow (by omega) fun k hk => by
    rcases hk with h | h
    · have := hS.2.1; omega
    · have := (hS.2.2.lt k h).1; omega

set_option maxHeartbeats 2000000 in
set_option maxRecDepth 100000 in
theorem great_walk (n : Int) (F : UInt8) (x y : Int) (w : World) (hT : TableAt w) :
    Calls Tryd.prog 9 #[.int .i64 n, .int .u8 (F.toNat : Int), .int .i64 x, .int .i64 y] w (Lawful w) := by
  have h0 : 0 < w.heap.size := by have := World.block_lt_of_cell? w _ (hT 0 (by omega)); exact this
  have HT := Lib.hid hT
  have HI := Lib.hid u8info
  obtain ⟨N, hN⟩ : ∃ N : Nat, (N : Int) = n % 131073 := ⟨(n % 131073).toNat, by omega⟩
  have hNb : N ≤ 131072 := by omega
  have HN := Lib.hid hN
  have hmk := run_make_row' (P := Tryd.prog) 22 5 (.int .u8 0) 1 Tryd.underlying22 u8info rfl .i64 .i64 N (by omega) (by omega)
  clear hT hN
  go_enter Tryd.func9, Tryd.ntmps9
  go_wp2_with (fail)
  refine (rest_any n 131073 w (by omega) (by omega)).mono ?_
  rintro e w1 ⟨rfl, rfl⟩
  rw [← HN.out]
  go_wp2
  go_loopw [10] (fun i wr => ∃ (k : Nat) (l : List UInt8), k ≤ N ∧ i = .int .i64 (k : Int) ∧ l.length = N ∧ wr.ownsRow w.heap.size 5 1 (.slice (some ⟨w.heap.size, 0, none⟩) N N) N (vals l) ∧ Below w.heap.size w wr) (fun i _ => N - (intOf i).toNat)
  case atStart =>
    refine ⟨0, List.replicate N 0, Nat.zero_le _, rfl, by simp, ?_, (Below.refl _ _).alloc (Nat.le_refl _) _⟩
    have := World.ownsRow_lit (base := w.heap.size) (e := 5) (size := 1) w (madeCells #[.int .u8 0] N) N (Nat.le_refl _) (by unfold maxLen; omega) (by rw [size_madeCells]; omega)
    rw [toList_madeCells_one] at this
    have hv : vals (List.replicate N 0) = List.replicate N (.int .u8 0) := by simp [vals, u8]
    rw [hv]; exact this
  case round =>
    obtain ⟨k, l, hk, rfl, hll, hown, hb⟩ := hrel
    have HO := Lib.hid hown
    have HB := Lib.hid hb
    have HLL := Lib.hid hll
    clear hown hb hll
    by_cases hlt : k < N
    · have hki : (k : Int) < (N : Int) := by omega
      have k0 : (0 : Int) ≤ (k : Int) := by omega
      have c0 : wr.cell? ⟨w.heap.size, k, none⟩ = some (.int .u8 ((l.getD k 0).toNat : Int)) := by
        rw [HO.out.cellAt k (by omega)]
        have := HLL.out
        simp [vals, u8, show k < l.length by omega]
      have f0 := HO.out.frozenAt k
      obtain ⟨q, hq⟩ : ∃ q, q = (l.getD k 0).toNat := ⟨_, rfl⟩
      rw [← hq] at c0
      have hF := F.toNat_lt
      clear hq
      go_wp2
      go_roundw
      case rel =>
        have hst := fun (z : Int) (h0 : 0 ≤ z) (h1 : z < 256) => store_any (k := k) HO.out h0 h1
        obtain ⟨l', h1, h2⟩ := hst _ (Int.emod_nonneg _ (by decide)) (Int.emod_lt_of_pos _ (by decide))
        exact ⟨k + 1, l', by omega, by go_num, by rw [h1]; exact HLL.out, h2, HB.out.setCell (Nat.le_refl _) _⟩
      case measure => simp [intOf]; omega
    · obtain rfl : k = N := by omega
      obtain ⟨sh, hsh⟩ : ∃ sh : List UInt8, sh = [F, 199, 157] := ⟨_, rfl⟩
      have hshl : sh.length = 3 := by rw [hsh]; rfl
      have hw8 : ∃ w8, w8 = wr.alloc (.cells #[.int .u8 (F.toNat : Int), .int .u8 199, .int .u8 157] 5) := ⟨_, rfl⟩
      obtain ⟨w8, hw8⟩ := hw8
      have P8 : Below w.heap.size w w8 := by rw [hw8]; exact HB.out.alloc HB.out.size _
      have hps : BytesAt w8 (some ⟨w.heap.size, 0, none⟩) l := by
        obtain ⟨_, A, c, he, hB, _⟩ := own_bytes HO.out
        cases he
        rw [hw8]
        exact hB.below ((Below.refl _ _).alloc (Nat.le_refl _) _)
      have hss : BytesAt w8 (some ⟨wr.heap.size, 0, none⟩) sh := by
        have ho : w8.ownsRow 0 5 1 (.slice (some ⟨wr.heap.size, 0, none⟩) 3 3) 3 (vals sh) := by
          have := World.ownsRow_lit (base := 0) (e := 5) (size := 1) wr #[.int .u8 (F.toNat : Int), .int .u8 199, .int .u8 157] 3 (Nat.zero_le _) (by unfold maxLen; omega) rfl
          rw [hw8, hsh]
          exact this
        obtain ⟨h3, A, c, he, hB, _⟩ := own_bytes ho
        rw [← h3] at he
        simp only [Value.slice.injEq] at he
        rw [he.1]
        exact hB
      have HP := Lib.hid hps
      have HS := Lib.hid hss
      have P8 := Lib.hid P8
      have HSL := Lib.hid hshl
      clear hsh hshl hps hss
      have HW1 := Lib.hid (wrapped_n (some ⟨w.heap.size, 0, none⟩) k k l w8 HP.out (fun h => by cases h) (by rw [HLL.out]; exact Nat.le_refl _) (by rw [HLL.out]; exact hNb) (HT.out.below P8.out) HLL.out.symm)
      have HW8 := Lib.hid hw8
      have h08 : 0 < w8.heap.size := by have := P8.out.size; omega
      clear hw8
      go_wp2_with (fail)
      rw [← HW8.out]
      refine HW1.out.mono ?_
      rintro e w9 ⟨v9, rfl, ho9, hb9⟩
      obtain ⟨f, hf⟩ : ∃ f, f = frameB l := ⟨_, rfl⟩
      have hfl : f.length = 12 + k := by rw [hf, frameB_length, HLL.out]
      rw [← hf] at ho9
      obtain ⟨_, A9, c9, rfl, hB9, hA9, hc9, _⟩ := own_bytes ho9
      have P9 := Lib.hid hb9
      have HB9 := Lib.hid hB9
      have HA9 := Lib.hid hA9
      have HF := Lib.hid hf
      have HFL := Lib.hid hfl
      clear ho9 hB9 hA9 hb9 hf hfl
      have HW2 := Lib.hid (wrapped_n (some ⟨wr.heap.size, 0, none⟩) 3 3 sh w9 (HS.out.below P9.out) (fun h => by cases h) (by rw [HSL.out]; exact Nat.le_refl _) (by rw [HSL.out]; omega) ((HT.out.below P8.out).below P9.out) HSL.out.symm)
      go_wp2_with (fail)
      refine HW2.out.mono ?_
      rintro e w10 ⟨v10, rfl, ho10, hb10⟩
      obtain ⟨f2, hf2⟩ : ∃ f2, f2 = frameB sh := ⟨_, rfl⟩
      have hfl2 : f2.length = 15 := by rw [hf2, frameB_length, HSL.out]
      rw [← hf2] at ho10
      obtain ⟨_, A10, c10, rfl, hB10, hA10, hc10, _⟩ := own_bytes ho10
      have P10 := Lib.hid (P9.out.trans (hb10.mono P9.out.size))
      have HB10 := Lib.hid hB10
      have HA10 := Lib.hid hA10
      have HB9' := Lib.hid (HB9.out.below hb10)
      have HF2 := Lib.hid hf2
      have HFL2 := Lib.hid hfl2
      clear ho10 hB10 hA10 hb10 hf2 hfl2
      go_wp2_with (fail)
      refine (newSplitter_any w10).mono ?_
      rintro e w11 ⟨rfl, hs11, hb11⟩
      have S11 := Lib.hid hs11
      have Q11 := Lib.hid hb11
      have P11 := Lib.hid (P10.out.trans (hb11.mono P10.out.size))
      have hb9l : f.length ≤ 131084 := by rw [HFL.out]; omega
      have hb9g : 12 ≤ f.length := by rw [HFL.out]; omega
      clear hs11 hb11
      go_wp2_with (fail)
      refine (copied_any A9 c9 f w11 (HB9'.out.below Q11.out) HA9.out hc9 (by omega)).mono ?_
      rintro e w12 ⟨v12, rfl, ho12, hb12⟩
      have O12 := Lib.hid ho12
      have Q12 := Lib.hid hb12
      have S12 := Lib.hid (S11.out.kept hb12)
      have P12 := Lib.hid (P11.out.trans (hb12.mono P11.out.size))
      have HB12 := Lib.hid ((HB10.out.below Q11.out).below hb12)
      have hf215 : f2.length ≤ 15 := by rw [HFL2.out]; omega
      clear ho12 hb12
      go_wp2_with (at_builtin; refine Hid.out ?_)
      refine Lib.hid ?_
      refine wpList_append_src _ rfl _ _ 22 rfl w11.heap.size 5 _ 1 1 Tryd.underlying22 HI.out rfl (by omega) v12 f.length (vals f) rfl O12.out A10 f2.length c10 (vals f2) rfl (by rw [vals_length]; omega) (fun h => by have := HA10.out h; omega) (bytes_news HB12.out) (vals_one f2) (by unfold maxLen; omega) (by omega) Q12.out.size ?_
      intro v13 w13 hown13 hgrow13 _
      rw [← vals_append] at hown13
      obtain ⟨z, hz⟩ : ∃ z, z = f ++ f2 := ⟨_, rfl⟩
      have hzl : f.length + f2.length = z.length := by rw [hz, List.length_append]
      rw [← hz, hzl] at hown13
      have hzb : z.length ≤ 131099 := by omega
      have hzg : f.length ≤ z.length := by omega
      have P13 := Lib.hid (P12.out.grown hgrow13 P12.out.size (fun q hq => by have := own_base' O12.out q hq; have := P11.out.size; omega))
      have S13 := Lib.hid (S12.out.grown O12.out (by decide) (Apart.nil _ _ _) hgrow13)
      obtain ⟨ga, ca, rfl, hga, hgal, hcal, hca63⟩ := own_shape hown13 (by omega)
      have O13 := Lib.hid hown13
      have HZ := Lib.hid hz
      clear hown13 hgrow13 hz hzl
      obtain ⟨I, hI⟩ : ∃ I : Nat, (I : Int) = x % (f.length : Int) := ⟨(x % (f.length : Int)).toNat, by have := Int.emod_nonneg x (show (f.length : Int) ≠ 0 by omega); omega⟩
      have hIl : I < f.length := by have := Int.emod_lt_of_pos x (show (0 : Int) < (f.length : Int) by omega); omega
      obtain ⟨J', hJ'⟩ : ∃ J' : Nat, (J' : Int) = y % ((f.length : Int) - (I : Int)) := ⟨(y % ((f.length : Int) - (I : Int))).toNat, by have := Int.emod_nonneg y (show (f.length : Int) - (I : Int) ≠ 0 by omega); omega⟩
      have hJl' : I + J' < f.length := by have := Int.emod_lt_of_pos y (show (0 : Int) < (f.length : Int) - (I : Int) by omega); omega
      obtain ⟨J, hJ⟩ : ∃ J, J = I + J' := ⟨_, rfl⟩
      have hJl : J < f.length := by omega
      have hIJ : I ≤ J := by omega
      have hJi : (I : Int) + (J' : Int) = (J : Int) := by omega
      have HJI := Lib.hid hJi
      have HI' := Lib.hid hI
      have HJ' := Lib.hid hJ'
      clear hI hJ' hJl' hJ hJi
      go_wp2_with (fail)
      refine (rest_any x (f.length : Int) w13 (by omega) (by omega)).mono ?_
      rintro e w14 ⟨rfl, rfl⟩
      rw [← HI'.out]
      go_wp2_with (fail)
      refine (rest_any y ((f.length : Int) - (I : Int)) w13 (by omega) (by omega)).mono ?_
      rintro e w14 ⟨rfl, rfl⟩
      rw [← HJ'.out]
      obtain ⟨p1, hp1⟩ : ∃ p1, p1 = z.take I := ⟨_, rfl⟩
      have hp1l : I = p1.length := by rw [hp1, List.length_take]; omega
      have hz13 : BytesAt w13 (some ⟨ga, 0, none⟩) z := by
        obtain ⟨_, A, c, he, hB, _⟩ := own_bytes O13.out
        cases he
        exact hB
      have hb1 : BytesAt w13 (some ⟨ga, 0, none⟩) p1 := by rw [hp1]; exact hz13.take I
      have hcut1 : cutS p1 = ([], 0, p1) := by rw [hp1, HZ.out, HF.out]; exact cutS_part l f2 (by rw [HLL.out]; exact hNb) I (by rw [← frameB_length, ← HF.out]; exact hIl)
      have HP1 := Lib.hid hp1
      have HP1L := Lib.hid hp1l
      have HB1 := Lib.hid hb1
      have HC1 := Lib.hid hcut1
      have hIc : (I : Int) ≤ (ca : Int) := by omega
      have hJw : IntKind.i64.wrap ((I : Int) + (J' : Int)) = (J : Int) := by rw [HJI.out, IntKind.wrap_i64]; omega
      clear hp1 hp1l hb1 hcut1 hz13
      go_wp2_with (fail)
      refine (copied_n (some ⟨ga, 0, none⟩) I ca p1 w13 HB1.out (fun h => by cases h) (by rw [← HP1L.out]; omega) (by rw [← HP1L.out]; omega) HP1L.out).mono ?_
      rintro e w15 ⟨v15, rfl, ho15, hb15⟩
      obtain ⟨_, A15, c15, rfl, hB15, hA15, hc15, _⟩ := own_bytes ho15
      have S15 := Lib.hid (S13.out.kept hb15)
      have O15 := Lib.hid (own_kept O13.out hb15)
      have P15 := Lib.hid (P13.out.trans (hb15.mono P13.out.size))
      have hbase15 : w10.heap.size ≤ w15.heap.size := by have := S15.out.lt; omega
      have HFD := Lib.hid (feed_any A15 c15 w10.heap.size w10.heap.size _ [] p1 0 w15 S15.out hB15 hA15 hc15 (by have := P10.out.size; omega) (by rw [← HP1L.out]; simp; omega) (by omega) hbase15 ((HT.out.below P8.out).below P15.out))
      clear ho15 hb15 hB15 hA15
      go_wp2_with (fail)
      refine HFD.out.mono ?_
      rintro e w16 ⟨v16, hv16, xs16, rfl, ho16, ha16, _, _, _, hs16, hf16, hc16⟩
      rw [List.nil_append, HC1.out] at ha16 hs16
      obtain rfl : xs16 = [] := List.eq_nil_of_length_eq_zero ha16.1
      obtain ⟨A16, c16, rfl, _, _⟩ := own_any_shape ho16
      obtain ⟨hk16, hap16⟩ := feed_keeps S15.out O15.out (Apart.nil _ _ _).symm hc16 (fun _ h => h) hf16
      have P16 := Lib.hid (P15.out.trans (hc16.splitBelow S15.out (by have := P10.out.size; have := P8.out.size; omega) hbase15))
      have O16 := Lib.hid hk16
      have AP16 := Lib.hid hap16
      have S16 := Lib.hid hs16
      have HH16 := held_any w16 _ _ _ _ _ hs16
      rw [← HP1L.out] at HH16
      have HH16 := Lib.hid HH16
      have HL16 := Lib.hid (lost_any w16 _ _ _ _ _ hs16)
      have d1 : decide ((131084 : Int) ≤ (I : Int)) = false := decide_eq_false (by omega)
      clear ho16 ha16 hs16 hf16 hc16 hk16 hap16
      go_wp2_with (fail)
      refine HH16.out.mono ?_
      rintro e w17 ⟨rfl, rfl⟩
      go_wp2_with (fail)
      refine HL16.out.mono ?_
      rintro e w17 ⟨rfl, rfl⟩
      go_wp2_with (fail)
      refine HH16.out.mono ?_
      rintro e w17 ⟨rfl, rfl⟩
      obtain ⟨p2, hp2⟩ : ∃ p2, p2 = (z.drop I).take (J - I) := ⟨_, rfl⟩
      have hp2l : J - I = p2.length := by rw [hp2, List.length_take, List.length_drop]; omega
      have hz16 : BytesAt w16 (some ⟨ga, 0, none⟩) z := by
        obtain ⟨_, A, c, he, hB, _⟩ := own_bytes O16.out
        cases he
        exact hB
      have hb2 : BytesAt w16 (some ⟨ga, I, none⟩) p2 := by
        rw [hp2]
        have := (hz16.drop I).take (J - I)
        rwa [Nat.zero_add] at this
      obtain ⟨q2, hq2⟩ : ∃ q2, q2 = p1 ++ p2 := ⟨_, rfl⟩
      have hqz : q2 = z.take J := by rw [hq2, HP1.out, hp2, ← List.take_add]; congr 1; omega
      have hq2l : J = q2.length := by rw [hqz, List.length_take]; omega
      have hcut2 : cutS q2 = ([], 0, q2) := by rw [hqz, HZ.out, HF.out]; exact cutS_part l f2 (by rw [HLL.out]; exact hNb) J (by rw [← frameB_length, ← HF.out]; exact hJl)
      have HP2L := Lib.hid hp2l
      have HB2 := Lib.hid hb2
      have HC2 := Lib.hid hcut2
      have HQ2 := Lib.hid hq2
      have HQZ := Lib.hid hqz
      have HQ2L := Lib.hid hq2l
      have hJc : (J : Int) ≤ (ca : Int) := by omega
      have hIJi : (I : Int) ≤ (J : Int) := by omega
      have hcI : ¬ ca = I := by omega
      clear hp2 hp2l hz16 hb2 hq2 hqz hq2l hcut2
      go_wp2_with (fail)
      refine (copied_n (some ⟨ga, I, none⟩) (J - I) (ca - I) p2 w16 HB2.out (fun h => by cases h) (by rw [← HP2L.out]; omega) (by rw [← HP2L.out]; omega) HP2L.out).mono ?_
      rintro e w18 ⟨v18, rfl, ho18, hb18⟩
      obtain ⟨_, A18, c18, rfl, hB18, hA18, hc18, _⟩ := own_bytes ho18
      have S18 := Lib.hid (S16.out.kept hb18)
      have O18 := Lib.hid (own_kept O16.out hb18)
      have P18 := Lib.hid (P16.out.trans (hb18.mono P16.out.size))
      have hbase18 : w10.heap.size ≤ w18.heap.size := by have := S18.out.lt; omega
      have HFD2 := Lib.hid (feed_any A18 c18 w10.heap.size w10.heap.size _ p1 p2 _ w18 S18.out hB18 hA18 hc18 (by have := P10.out.size; omega) (by rw [← HP1L.out, ← HP2L.out]; omega) (by omega) hbase18 ((HT.out.below P8.out).below P18.out))
      clear ho18 hb18 hB18 hA18
      go_wp2_with (fail)
      refine HFD2.out.mono ?_
      rintro e w19 ⟨v19, hv19, xs19, rfl, ho19, ha19, _, _, _, hs19, hf19, hc19⟩
      rw [← HQ2.out, HC2.out] at ha19 hs19
      obtain rfl : xs19 = [] := List.eq_nil_of_length_eq_zero ha19.1
      obtain ⟨A19, c19, rfl, _, _⟩ := own_any_shape ho19
      obtain ⟨hk19, hap19⟩ := feed_keeps S18.out O18.out AP16.out hc19 (fun _ h => h) hf19
      have P19 := Lib.hid (P18.out.trans (hc19.splitBelow S18.out (by have := P10.out.size; have := P8.out.size; omega) hbase18))
      have O19 := Lib.hid hk19
      have AP19 := Lib.hid hap19
      have S19 := Lib.hid hs19
      have HH19 := held_any w19 _ _ _ _ _ hs19
      rw [← HQ2L.out] at HH19
      have HH19 := Lib.hid HH19
      have HL19 := Lib.hid (lost_any w19 _ _ _ _ _ hs19)
      have d2 : decide ((131084 : Int) ≤ (J : Int)) = false := decide_eq_false (by omega)
      clear ho19 ha19 hs19 hf19 hc19 hk19 hap19
      go_wp2_with (fail)
      refine HH19.out.mono ?_
      rintro e w20 ⟨rfl, rfl⟩
      go_wp2_with (fail)
      refine HL19.out.mono ?_
      rintro e w20 ⟨rfl, rfl⟩
      go_wp2_with (fail)
      refine HH19.out.mono ?_
      rintro e w20 ⟨rfl, rfl⟩
      obtain ⟨p3, hp3⟩ : ∃ p3, p3 = z.drop J := ⟨_, rfl⟩
      have hp3l : z.length - J = p3.length := by rw [hp3, List.length_drop]
      have hz19 : BytesAt w19 (some ⟨ga, 0, none⟩) z := by
        obtain ⟨_, A, c, he, hB, _⟩ := own_bytes O19.out
        cases he
        exact hB
      have hb3 : BytesAt w19 (some ⟨ga, J, none⟩) p3 := by
        rw [hp3]
        have := hz19.drop J
        rwa [Nat.zero_add] at this
      have hqz3 : q2 ++ p3 = z := by rw [HQZ.out, hp3, List.take_append_drop]
      have hcut3 : cutS z = ([l, sh], 0, []) := by rw [HZ.out, HF.out, HF2.out]; exact cutS_two l sh (by rw [HLL.out]; exact hNb) (by rw [HSL.out]; omega)
      have HP3L := Lib.hid hp3l
      have HB3 := Lib.hid hb3
      have HC3 := Lib.hid hcut3
      have HQZ3 := Lib.hid hqz3
      have hcJ : ¬ ca = J := by omega
      clear hp3 hp3l hz19 hb3 hqz3 hcut3
      go_wp2_with (fail)
      refine (copied_n (some ⟨ga, J, none⟩) (z.length - J) (ca - J) p3 w19 HB3.out (fun h => by cases h) (by rw [← HP3L.out]; omega) (by rw [← HP3L.out]; omega) HP3L.out).mono ?_
      rintro e w21 ⟨v21, rfl, ho21, hb21⟩
      obtain ⟨_, A21, c21, rfl, hB21, hA21, hc21, _⟩ := own_bytes ho21
      have S21 := Lib.hid (S19.out.kept hb21)
      have P21 := Lib.hid (P19.out.trans (hb21.mono P19.out.size))
      have hbase21 : w10.heap.size ≤ w21.heap.size := by have := S21.out.lt; omega
      have HFD3 := Lib.hid (feed_any A21 c21 w10.heap.size w10.heap.size _ q2 p3 _ w21 S21.out hB21 hA21 hc21 (by have := P10.out.size; omega) (by rw [← HQ2L.out, ← HP3L.out]; omega) (by omega) hbase21 ((HT.out.below P8.out).below P21.out))
      clear ho21 hb21 hB21 hA21
      go_wp2_with (fail)
      refine HFD3.out.mono ?_
      rintro e w22 ⟨v22, hv22, xs22, rfl, ho22, ha22, _, _, _, hs22, _, hc22⟩
      rw [HQZ3.out, HC3.out] at ha22 hs22
      have P22 := Lib.hid (P21.out.trans (hc22.splitBelow S21.out (by have := P10.out.size; have := P8.out.size; omega) hbase21))
      obtain ⟨x1, x2, rfl⟩ : ∃ x1 x2, xs22 = [x1, x2] := by
        have := ha22.1
        match xs22, this with
        | [a, b], _ => exact ⟨a, b, rfl⟩
      have hx1 := ha22.2.1 0 x1 rfl
      have hx2 := ha22.2.1 1 x2 rfl
      obtain ⟨_, B1, e1, rfl, hX1, _, _, _⟩ := own_bytes hx1
      obtain ⟨_, B2, e2, rfl, hX2, _, _, _⟩ := own_bytes hx2
      obtain ⟨g22, c22, rfl, _, _, _, _⟩ := own_shape ho22 (by simp)
      have k0 := ho22.cellAt 0 (by simp)
      have k1 := ho22.cellAt 1 (by simp)
      simp only [List.getD_cons_zero, List.getD_cons_succ, List.getElem?_cons_zero, List.getElem?_cons_succ] at k0 k1 hX1 hX2
      rw [HLL.out] at k0
      rw [HSL.out] at k1
      have hg22 : g22 < w22.heap.size := World.block_lt_of_cell? _ _ k0
      have S22 := Lib.hid hs22
      have HEQ1 := Lib.hid (eq_n B1 (some ⟨w.heap.size, 0, none⟩) k k e1 k l l w22 hX1 (HP.out.below P22.out) (by rw [HLL.out]; omega) HLL.out.symm HLL.out.symm)
      have HX2 := Lib.hid hX2
      clear hx1 hx2 hX1 hX2 ho22 ha22 hs22 hc22
      go_wp2_with (fail)
      refine HEQ1.out.mono ?_
      rintro e w23 ⟨rfl, hb23⟩
      have K1 := (hb23.cell (p := ⟨g22, 1, none⟩) hg22).trans k1
      have S23 := Lib.hid (S22.out.kept hb23)
      have P23 := Lib.hid (P22.out.trans (hb23.mono P22.out.size))
      have HEQ2 := Lib.hid (eq_n B2 (some ⟨wr.heap.size, 0, none⟩) 3 3 e2 3 sh sh w23 (HX2.out.below hb23) (HS.out.below P23.out) (by rw [HSL.out]; omega) HSL.out.symm HSL.out.symm)
      clear k0 k1 hb23 hg22
      go_wp2_with (fail)
      refine HEQ2.out.mono ?_
      rintro e w24 ⟨rfl, hb24⟩
      have P24 := Lib.hid (P23.out.trans (hb24.mono P23.out.size))
      have HH24 := Lib.hid (held_any w24 _ _ _ _ _ (S23.out.kept hb24))
      have HL24 := Lib.hid (lost_any w24 _ _ _ _ _ (S23.out.kept hb24))
      clear hb24 K1
      go_wp2_with (fail)
      refine HH24.out.mono ?_
      rintro e w25 ⟨rfl, rfl⟩
      go_wp2_with (fail)
      refine HL24.out.mono ?_
      rintro e w25 ⟨rfl, rfl⟩
      go_wp2
      go_ret
      exact ⟨rfl, P8.out.trans (P24.out.mono P8.out.size)⟩
end Go.Proofs.YtooagpjfcnpheaaDoor
