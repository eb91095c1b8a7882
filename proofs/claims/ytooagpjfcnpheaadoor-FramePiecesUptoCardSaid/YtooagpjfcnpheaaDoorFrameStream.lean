/- stream, by its contract: the frames of the first payloads, one behind the other, and where each begins. -/
import Derived.Test.YtooagpjfcnpheaaDoorFrameScan
import Derived.Deep.DeepCutAuto
namespace Go.Proofs.YtooagpjfcnpheaaDoor
open Go.RowKit

theorem intinfo : (Tryd.prog.info? 3).map (fun i => (i.zero, i.size, i.bytes)) = some (some (.int .i64 0), 1, 8) := by kernel_rfl

/-- Where the frames begin, as cells. -/
def offV (ps : List (List UInt8)) (k : Nat) : List Value := (List.range (k + 1)).map fun j => .int .i64 (offB ps j : Int)
theorem offV_succ (ps : List (List UInt8)) (k : Nat) : offV ps (k + 1) = offV ps k ++ [.int .i64 (offB ps (k + 1) : Int)] := by
  unfold offV; rw [List.range_succ, List.map_append]; rfl
theorem offV_length (ps : List (List UInt8)) (k : Nat) : (offV ps k).length = k + 1 := by unfold offV; rw [List.length_map, List.length_range]
theorem offV_get (ps : List (List UInt8)) (k i : Nat) (h : i ≤ k) : (offV ps k)[i]? = some (.int .i64 (offB ps i : Int)) := by
  unfold offV
  rw [List.getElem?_map, List.getElem?_range (by omega)]; rfl
theorem offV_take (ps : List (List UInt8)) (k : Nat) : offV (ps.take k) k = offV ps k := by
  unfold offV offB
  refine List.map_congr_left fun j hj => ?_
  have := List.mem_range.1 hj
  rw [List.take_take, Nat.min_eq_left (by omega)]

/-- What 'stream' answers, where m payloads are taken. -/
def StreamIs (ps : List (List UInt8)) (w : World) (e : Ending) (w' : World) : Prop :=
  ∃ (m : Nat) (v1 v2 : Value), e = .returned (.tuple #[v1, v2, .bool true]) ∧ m ≤ ps.length ∧ m ≤ 12 ∧ (∀ p ∈ ps.take m, p.length ≤ 16384) ∧
    w'.ownsRow w.heap.size 5 1 v1 (framesB (ps.take m)).length (vals (framesB (ps.take m))) ∧ w'.ownsRow w.heap.size 3 1 v2 (m + 1) (offV ps m) ∧ Below w.heap.size w w'

theorem framesB_le (qs : List (List UInt8)) (h : ∀ p ∈ qs, p.length ≤ 16384) : (framesB qs).length ≤ 16396 * qs.length := by
  induction qs with
  | nil => simp [framesB_nil]
  | cons q qs ih =>
    have := ih fun p hp => h p (by simp [hp])
    have := h q (by simp)
    rw [framesB_cons, List.length_append, frameB_length, List.length_cons]
    omega

set_option maxHeartbeats 1600000 in
set_option maxRecDepth 100000 in
theorem stream_any (A : Option Addr) (c : Nat) (ps : List (List UInt8)) (w : World) (hp : RowsAt w A ps) (hps : ∀ p ∈ ps, p.length ≤ 140737488351232) (ht : TableAt w) :
    Calls Tryd.prog 17 #[.slice A ps.length c] w (StreamIs ps w) := by
  have HPS := Lib.hid hps
  have HP := Lib.hid hp
  have HT := Lib.hid ht
  have HI := Lib.hid u8info
  have HII := Lib.hid intinfo
  clear hp ht hps
  go_enter Tryd.func17, Tryd.ntmps17
  go_wp2
  go_loopw [5, 6, 7] (fun v u i' wr => ∃ i : Nat, i ≤ ps.length ∧ i ≤ 12 ∧ i' = .int .i64 (i : Int) ∧ (∀ p ∈ ps.take i, p.length ≤ 16384) ∧
      wr.ownsRow w.heap.size 5 1 v (framesB (ps.take i)).length (vals (framesB (ps.take i))) ∧ wr.ownsRow w.heap.size 3 1 u (i + 1) (offV ps i) ∧ Apart u v ∧ Below w.heap.size w wr)
    (fun _ _ i' _ => 12 - (intOf i').toNat)
  case atStart =>
    refine ⟨0, Nat.zero_le _, by omega, rfl, by simp, ⟨rfl, .inl ⟨rfl, rfl⟩⟩, ?_, (Apart.nil _ _ _).symm, (Below.refl _ _).alloc (Nat.le_refl _) _⟩
    exact ⟨rfl, .inr ⟨_, _, _, rfl, Nat.le_refl _, heap_alloc_new w _, Nat.le_refl _, by unfold maxLen; omega, rfl, rfl⟩⟩
  case round =>
    obtain ⟨i, hi, hi2, rfl, hsm, hv, hu, hne, hb⟩ := hrel
    have hLle := framesB_le _ hsm
    obtain ⟨f, hf⟩ : ∃ f, f = framesB (ps.take i) := ⟨_, rfl⟩
    rw [← hf] at hv hLle
    obtain ⟨_, A5, c5, rfl, _, _, _⟩ := own_bytes hv
    have hfl : f.length ≤ 196752 := by rw [List.length_take] at hLle; omega
    have HF := Lib.hid hf
    have HV := Lib.hid hv
    have HU := Lib.hid hu
    have HN := Lib.hid hne
    have HB := Lib.hid hb
    have HSM := Lib.hid hsm
    clear hf hv hu hne hb hsm hLle
    by_cases hlt : i < ps.length
    · by_cases h12 : i < 12
      · obtain ⟨b, o, v, rfl, hb1, q0, r0⟩ := HP.out i hlt
        obtain ⟨p, hpp⟩ : ∃ p, p = ps.getD i [] := ⟨_, rfl⟩
        rw [← hpp] at r0
        obtain ⟨A0, c0, rfl, s0, s1, s2, s3⟩ := r0
        have e0 := (HB.out.cell (p := ⟨b, o + i, none⟩) hb1).trans q0
        have hp2 : ps[i]? = some p := by rw [hpp, List.getD_eq_getElem?_getD, List.getElem?_eq_getElem hlt]; rfl
        have hp47 : p.length ≤ 140737488351232   := HPS.out p (List.mem_of_getElem? hp2)
        have i0 : (0 : Int) ≤ (i : Int) := by omega
        have i1 : (i : Int) < (ps.length : Int) := by omega
        have i2 : (i : Int) < 12 := by omega
        have HPP := Lib.hid hp2
        clear hpp hp2 q0
        by_cases hbig : 16384 < f.length + p.length
        · have hbi : (16384 : Int) < (f.length : Int) + (p.length : Int) := by omega
          go_wp2
          go_ret3
          exact ⟨i, _, _, rfl, hi, hi2, HSM.out, by rw [← HF.out]; exact HV.out, HU.out, HB.out⟩
        · have hbi : ¬ (16384 : Int) < (f.length : Int) + (p.length : Int) := by omega
          have HWR := Lib.hid (wrapped_any A0 c0 p wr ((s0.below HB.out)) s1 s2 (by omega) (HT.out.below HB.out))
          clear s0 s1
          go_wp2_with (fail)
          refine HWR.out.mono ?_
          rintro e w8 ⟨v8, rfl, ho8, hb8⟩
          obtain ⟨g, hg⟩ : ∃ g, g = frameB p := ⟨_, rfl⟩
          have hgl : g.length = 12 + p.length := by rw [hg, frameB_length]
          rw [← hg] at ho8
          obtain ⟨_, A8, c8, rfl, hB8, hA8, hc8, _⟩ := own_bytes ho8
          have V8 := Lib.hid (own_kept HV.out hb8)
          have U8 := Lib.hid (own_kept HU.out hb8)
          have B8 := Lib.hid (HB.out.trans (hb8.mono HB.out.size))
          have HB8 := Lib.hid hB8
          have HA8 := Lib.hid hA8
          have HG := Lib.hid hg
          have HGL := Lib.hid hgl
          have hgl2 : g.length ≤ 16396 := by omega
          clear ho8 hb8 hB8 hA8 hg hgl
          go_wp2_with (at_builtin; refine Hid.out ?_)
          refine Lib.hid ?_
          refine wpList_append_src _ rfl _ _ 22 rfl w.heap.size 5 _ 1 1 Tryd.underlying22 HI.out rfl (by omega) _ _ (vals f) rfl V8.out A8 g.length c8 (vals g) rfl (by rw [vals_length]; omega) (fun h => by have := HA8.out h; omega) (bytes_news HB8.out) (vals_one g) (by unfold maxLen; omega) (by omega) B8.out.size ?_
          intro v10 w10 hown10 hgrow10 hat10
          have B10 := Lib.hid (B8.out.grown hgrow10 B8.out.size (fun q hq => own_base' V8.out q hq))
          have U10 := Lib.hid (World.ownsRow.kept U8.out hgrow10 HN.out)
          have N10 := Lib.hid (Apart.grown HN.out U8.out (Nat.le_refl _) hat10)
          rw [← vals_append] at hown10
          have hfl10 : f.length + g.length = (f ++ g).length := by rw [List.length_append]
          rw [hfl10] at hown10
          obtain ⟨_, A10, c10, rfl, _, _, _, _⟩ := own_bytes hown10
          have V10 := Lib.hid hown10
          clear hown10 hgrow10 hat10
          obtain ⟨z, hz⟩ : ∃ z, z = f ++ g := ⟨_, rfl⟩
          rw [← hz] at V10 N10 hfl10 ⊢
          have HZ := Lib.hid hz
          clear hz
          go_wp2_with (at_builtin; refine Hid.out ?_)
          refine Lib.hid ?_
          refine wpList_append_at _ rfl _ _ 33 rfl w.heap.size 3 _ 1 8 Tryd.underlying33 HII.out rfl (by omega) u6 (i + 1) (offV ps i) rfl (U10.out.alloc _) ⟨w10.heap.size, 0, none⟩ 1 1 [.int .i64 (z.length : Int)] rfl rfl (World.news_of_block (cs := #[.int .i64 (z.length : Int)]) (t := 3) (fr := (0, 0)) (heap_alloc_new w10 _)) (by simp [Value.oneCell']) (by unfold maxLen; omega) (by omega) (by have := B10.out.size; simp; omega) ?_
          intro v11 w11 hown11 hgrow11 hat11
          have B11 := Lib.hid ((B10.out.alloc B10.out.size _).grown hgrow11 (by have := B10.out.size; simp; omega) (fun q hq => own_base' HU.out q hq))
          have V11 := Lib.hid (World.ownsRow.kept (V10.out.alloc _) hgrow11 N10.out.symm)
          have N11 := Lib.hid (Apart.grown N10.out.symm (V10.out.alloc _) (Nat.le_refl _) hat11).symm
          have O11 := Lib.hid hown11
          clear hown11 hgrow11 hat11
          go_wp2
          go_roundw
          case rel =>
            have hti : ps.take (i + 1) = ps.take i ++ [p] := by
              rw [List.take_add_one, HPP.out]; rfl
            have hzz : framesB (ps.take (i + 1)) = z := by rw [hti, framesB_append, framesB_one, HZ.out, HF.out, HG.out]
            have hoo : offB ps (i + 1) = z.length := by unfold offB; rw [hzz]
            refine ⟨i + 1, by omega, by omega, by go_num, ?_, ?_, ?_, N11.out, B11.out⟩
            · rw [hti]
              intro q hq
              rcases List.mem_append.1 hq with h | h
              · exact HSM.out q h
              · rw [List.mem_singleton.1 h]; omega
            · rw [hzz]; exact V11.out
            · rw [offV_succ, hoo]; exact O11.out
          case measure => simp [intOf]; omega
      · obtain rfl : i = 12 := by omega
        go_wp2
        go_ret3
        exact ⟨12, _, _, rfl, hi, by omega, HSM.out, by rw [← HF.out]; exact HV.out, HU.out, HB.out⟩
    · obtain rfl : i = ps.length := by omega
      go_wp2
      go_ret3
      exact ⟨ps.length, _, _, rfl, hi, by omega, HSM.out, by rw [← HF.out]; exact HV.out, HU.out, HB.out⟩
end Go.Proofs.YtooagpjfcnpheaaDoor
