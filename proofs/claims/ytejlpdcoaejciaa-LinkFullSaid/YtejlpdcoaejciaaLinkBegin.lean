/- (*Link).begin, by its contract. -/
import Derived.Test.YtejlpdcoaejciaaLinkOwn
import Derived.Deep.RegionLaw
import Derived.Deep.AppendLies
import Derived.Deep.DeepCutAuto
namespace Go.Proofs.Ytejlpdcoaejciaa
open Go.RowKit

structure FlightR where
  num : Int
  a : Int
  b : Int
  l : List UInt8
  sp : Bool
  v : Value
def fcells (f : FlightR) : List Value := [.int .i64 f.num, .int .i64 f.a, .int .i64 f.b, f.v, .bool f.sp]
def fflat (fs : List FlightR) : List Value := fs.flatMap fcells
theorem fflat_append (a b : List FlightR) : fflat (a ++ b) = fflat a ++ fflat b := by simp [fflat]
theorem fflat_one (f : FlightR) : fflat [f] = fcells f := by simp [fflat]
theorem fflat_len (fs : List FlightR) : (fflat fs).length = fs.length * 5 := by
  induction fs with
  | nil => rfl
  | cons f fs ih => rw [show fflat (f :: fs) = fcells f ++ fflat fs from rfl, List.length_append, ih, List.length_cons]; simp [fcells]; omega

/-- A link: what it is made for, the next number, its flights. -/
def LinkAt (w : World) (base g : Nat) (nodes most next : Int) (v : Value) (fs : List FlightR) : Prop :=
  w.heap[g]? = some (.cells #[.int .i64 nodes, .int .i64 most, .int .i64 next, v] 79 (0, 0)) ∧ base ≤ g ∧ w.ownsRow base 82 5 v fs.length (fflat fs) ∧ (∀ f ∈ fs, w.ownsRow base 5 1 f.v f.l.length (vals f.l)) ∧ (fs.map (·.v)).Pairwise Apart

theorem flightinfo : (Try.prog.info? 82).map (fun i => (i.zero, i.size, i.bytes)) = some (some (.agg #[.int .i64 0, .int .i64 0, .int .i64 0, .slice none 0 0, .bool false]), 5, 56) := by kernel_rfl

def BeginIs (base g : Nat) (nodes most next : Int) (v : Value) (fs : List FlightR) (a b : Int) (l : List UInt8) (sp : Bool) (w : World) (e : Ending) (w' : World) : Prop :=
  ∃ v' nv, e = .returned (.int .i64 next) ∧ LinkAt w' base g nodes most (next + 1) v' (fs ++ [⟨next, a, b, l, sp, nv⟩]) ∧ (v'.ownBlock = v.ownBlock ∨ ∃ k, v'.ownBlock = some k ∧ w.heap.size ≤ k) ∧ Chg (fun k => k = g ∨ v.ownBlock = some k) w w'

set_option maxHeartbeats 1600000 in
set_option maxRecDepth 100000 in
theorem begin_any (base g : Nat) (nodes most next : Int) (v : Value) (fs : List FlightR) (num a b : Int) (A : Option Addr) (c : Nat) (l : List UInt8) (sp : Bool) (w : World) (hL : LinkAt w base g nodes most next v fs) (hl : BytesAt w A l) (hn : l.length ≤ 140737488351232)
    (hb : base ≤ w.heap.size) (hfs : fs.length ≤ 1048576) (hn0 : 0 ≤ next) (hn1 : next ≤ 4611686018427387904) :
    Calls Try.prog 34 #[.pointer (some ⟨g, 0, none⟩), flightV num a b (.slice A l.length c) sp] w (BeginIs base g nodes most next v fs a b l sp w) := by
  obtain ⟨w1, hw1⟩ : ∃ w1, w1 = w.alloc (.cells #[.int .i64 num, .int .i64 a, .int .i64 b, .slice A l.length c, .bool sp] 82) := ⟨_, rfl⟩
  have hb1 : Below w.heap.size w w1 := by rw [hw1]; exact (Below.refl _ _).alloc (Nat.le_refl _) _
  have g1 : w1.heap[w.heap.size]? = some (.cells #[.int .i64 num, .int .i64 a, .int .i64 b, .slice A l.length c, .bool sp] 82 (0, 0)) := by rw [hw1]; exact heap_alloc_new w _
  have hs1 : w1.heap.size = w.heap.size + 1 := by rw [hw1]; simp
  have HC := Lib.hid (copied16_any num a b A c l sp w1 (hl.below hb1) hn)
  have hgw := (Array.getElem?_eq_some_iff.1 hL.1).1
  obtain ⟨A0, c0, hv0, hA0, hc0⟩ : ∃ A0 c0, v = .slice A0 fs.length c0 ∧ (A0 = none → fs.length = 0) ∧ fs.length ≤ c0 := by
    rcases hL.2.2.1.2 with ⟨h, h2⟩ | ⟨gg, cap, cur, h, _, _, h1, _⟩
    · exact ⟨none, 0, by rw [h, h2], fun _ => h2, by omega⟩
    · exact ⟨_, cap, h, (fun h => by cases h), h1⟩
  have HL := Lib.hid hL
  have HW := Lib.hid hw1
  have HB := Lib.hid hb1
  have HG1 := Lib.hid g1
  have HS1 := Lib.hid hs1
  have HV0 := Lib.hid hv0
  clear hl hw1 hb1 hL g1 hs1 hv0
  unfold flightV at HC ⊢
  go_enter Try.func34, Try.ntmps34
  go_wp2_with (fail)
  rw [← HW.out]
  refine HC.out.mono ?_
  rintro e w3 ⟨gg, rfl, ho3, hb3⟩
  obtain ⟨V, hV⟩ : ∃ V, V = Value.slice (some ⟨gg, 0, none⟩) l.length l.length := ⟨_, rfl⟩
  have B3 := HB.out.trans (hb3.mono HB.out.size)
  have e1 := (hb3.block w.heap.size (by have := HS1.out; omega)).trans HG1.out
  have eg := (B3.block g hgw).trans HL.out.1
  have f3 : ∀ i, w3.frozen? ⟨w.heap.size, i, none⟩ = false := fun i => by simp [World.frozen?, e1]
  have fg : ∀ i, w3.frozen? ⟨g, i, none⟩ = false := fun i => by simp [World.frozen?, eg]
  have k0 : w3.cell? ⟨w.heap.size, 0, none⟩ = some (.int .i64 num) := by rw [cell_of_row w3 w.heap.size _ _ _ (0, 0) e1]; rfl
  have k1 : w3.cell? ⟨w.heap.size, 1, none⟩ = some (.int .i64 a) := by rw [cell_of_row w3 w.heap.size _ _ _ (0, 0) e1]; rfl
  have k2 : w3.cell? ⟨w.heap.size, 2, none⟩ = some (.int .i64 b) := by rw [cell_of_row w3 w.heap.size _ _ _ (0, 0) e1]; rfl
  have k3 : w3.cell? ⟨w.heap.size, 3, none⟩ = some (.slice A l.length c) := by rw [cell_of_row w3 w.heap.size _ _ _ (0, 0) e1]; rfl
  have k4 : w3.cell? ⟨w.heap.size, 4, none⟩ = some (.bool sp) := by rw [cell_of_row w3 w.heap.size _ _ _ (0, 0) e1]; rfl
  have n2 : w3.cell? ⟨g, 2, none⟩ = some (.int .i64 next) := by rw [cell_of_row w3 g _ _ _ (0, 0) eg]; rfl
  have hgs : g ≠ w.heap.size := by omega
  have HO3 := Lib.hid ho3
  have HB3 := Lib.hid hb3
  have E1 := Lib.hid e1
  have EG := Lib.hid eg
  have BB3 := Lib.hid B3
  clear ho3 hb3 e1 eg B3 hV
  unfold flightV
  go_upto_region 4 with (fail)
  have hz1 : (((((((w3.setCell ⟨w.heap.size, 0, none⟩ (.int .i64 num)).setCell ⟨w.heap.size, 1, none⟩ (.int .i64 a)).setCell ⟨w.heap.size, 2, none⟩ (.int .i64 b)).setCell ⟨w.heap.size, 3, none⟩ (.slice (some ⟨gg, 0, none⟩) l.length l.length)).setCell ⟨w.heap.size, 4, none⟩ (.bool sp)).setCell ⟨w.heap.size, 0, none⟩ (.int .i64 next)).setCell ⟨g, 2, none⟩ (.int .i64 (next + 1))).heap[w.heap.size]? = some (.cells #[.int .i64 next, .int .i64 a, .int .i64 b, .slice (some ⟨gg, 0, none⟩) l.length l.length, .bool sp] 82 (0, 0)) := by
    simp [World.setCell, Array.getElem?_modify, E1.out, hgs]
  have hz2 : (((((((w3.setCell ⟨w.heap.size, 0, none⟩ (.int .i64 num)).setCell ⟨w.heap.size, 1, none⟩ (.int .i64 a)).setCell ⟨w.heap.size, 2, none⟩ (.int .i64 b)).setCell ⟨w.heap.size, 3, none⟩ (.slice (some ⟨gg, 0, none⟩) l.length l.length)).setCell ⟨w.heap.size, 4, none⟩ (.bool sp)).setCell ⟨w.heap.size, 0, none⟩ (.int .i64 next)).setCell ⟨g, 2, none⟩ (.int .i64 (next + 1))).heap[g]? = some (.cells #[.int .i64 nodes, .int .i64 most, .int .i64 (next + 1), v] 79 (0, 0)) := by
    simp [World.setCell, Array.getElem?_modify, EG.out, Ne.symm hgs]
  have hz3 : Chg (fun k => k = w.heap.size ∨ k = g) w3 (((((((w3.setCell ⟨w.heap.size, 0, none⟩ (.int .i64 num)).setCell ⟨w.heap.size, 1, none⟩ (.int .i64 a)).setCell ⟨w.heap.size, 2, none⟩ (.int .i64 b)).setCell ⟨w.heap.size, 3, none⟩ (.slice (some ⟨gg, 0, none⟩) l.length l.length)).setCell ⟨w.heap.size, 4, none⟩ (.bool sp)).setCell ⟨w.heap.size, 0, none⟩ (.int .i64 next)).setCell ⟨g, 2, none⟩ (.int .i64 (next + 1))) :=
    (((((((Chg.refl _ _).setCell (.inl (.inl rfl)) _).setCell (.inl (.inl rfl)) _).setCell (.inl (.inl rfl)) _).setCell (.inl (.inl rfl)) _).setCell (.inl (.inl rfl)) _).setCell (.inl (.inl rfl)) _).setCell (.inl (.inr rfl)) _
  generalize (((((((w3.setCell ⟨w.heap.size, 0, none⟩ (.int .i64 num)).setCell ⟨w.heap.size, 1, none⟩ (.int .i64 a)).setCell ⟨w.heap.size, 2, none⟩ (.int .i64 b)).setCell ⟨w.heap.size, 3, none⟩ (.slice (some ⟨gg, 0, none⟩) l.length l.length)).setCell ⟨w.heap.size, 4, none⟩ (.bool sp)).setCell ⟨w.heap.size, 0, none⟩ (.int .i64 next)).setCell ⟨g, 2, none⟩ (.int .i64 (next + 1))) = wz at hz1 hz2 hz3 ⊢
  clear k0 k1 k2 k3 k4 n2 f3 fg
  have hzs : w3.heap.size ≤ wz.heap.size := hz3.size
  have hs3 : w.heap.size < w3.heap.size := (Array.getElem?_eq_some_iff.1 E1.out).1
  have k0 : wz.cell? ⟨w.heap.size, 0, none⟩ = some (.int .i64 next) := by rw [cell_of_row wz w.heap.size _ _ _ (0, 0) hz1]; rfl
  have k1 : wz.cell? ⟨w.heap.size, 1, none⟩ = some (.int .i64 a) := by rw [cell_of_row wz w.heap.size _ _ _ (0, 0) hz1]; rfl
  have k2 : wz.cell? ⟨w.heap.size, 2, none⟩ = some (.int .i64 b) := by rw [cell_of_row wz w.heap.size _ _ _ (0, 0) hz1]; rfl
  have k3 : wz.cell? ⟨w.heap.size, 3, none⟩ = some (.slice (some ⟨gg, 0, none⟩) l.length l.length) := by rw [cell_of_row wz w.heap.size _ _ _ (0, 0) hz1]; rfl
  have k4 : wz.cell? ⟨w.heap.size, 4, none⟩ = some (.bool sp) := by rw [cell_of_row wz w.heap.size _ _ _ (0, 0) hz1]; rfl
  have n3 : wz.cell? ⟨g, 3, none⟩ = some v := by rw [cell_of_row wz g _ _ _ (0, 0) hz2]; rfl
  have fg3 : wz.frozen? ⟨g, 3, none⟩ = false := by simp [World.frozen?, hz2]
  have B3 := BB3.out
  have hvlt : ∀ k, v.ownBlock = some k → k < w.heap.size := fun k hk => (HL.out.2.2.1.lt k hk).2
  have hvg : v.ownBlock ≠ some g := own_ne HL.out.2.2.1 HL.out.1 (by decide)
  have hov := own_chg (own_kept HL.out.2.2.1 B3) hz3 (fun k hk h => by
    rcases h with h | h
    · have := hvlt k hk; omega
    · exact hvg (by rw [hk, h]))
  have hol : ∀ f ∈ fs, wz.ownsRow base 5 1 f.v f.l.length (vals f.l) := fun f hf =>
    own_chg (own_kept (HL.out.2.2.2.1 f hf) B3) hz3 (fun k hk h => by
      rcases h with h | h
      · have := ((HL.out.2.2.2.1 f hf).lt k hk).2; omega
      · exact own_ne (HL.out.2.2.2.1 f hf) HL.out.1 (by decide) (by rw [hk, h]))
  have hoV := own_chg (HO3.out) hz3 (fun k hk h => by
    have := (HO3.out.lt k hk).1
    have := HS1.out
    rcases h with h | h <;> omega)
  have hgz : g < wz.heap.size := (Array.getElem?_eq_some_iff.1 hz2).1
  have hsz : w.heap.size < wz.heap.size := by omega
  obtain ⟨i0, hi0, hy0, hy1, hy2⟩ := info_parts flightinfo
  have HOV := Lib.hid hov
  have HOL := Lib.hid hol
  have HOVV := Lib.hid hoV
  have HZ1 := Lib.hid hz1
  have HZ2 := Lib.hid hz2
  have HZ3 := Lib.hid hz3
  have HVG := Lib.hid hvg
  have HVL := Lib.hid hvlt
  rw [HV0.out] at n3 hvg
  rw [HV0.out] at HOV
  clear hov hol hoV hz1 hz2 hz3 hvlt B3
  go_wp2
  go_region_law ((refine step_append_lies _ (by rfl) _ _ _ (by rfl) base 82 i0 _ 5 56 Try.underlying61 hi0 hy0 hy1 hy2 rfl (by omega) (.slice A0 fs.length c0) fs.length (fflat fs) (by rfl) ((HOV.out.alloc _).drew) ⟨wz.heap.size, 0, none⟩ 1 1 [.int .i64 next, .int .i64 a, .int .i64 b, .slice (some ⟨gg, 0, none⟩) l.length l.length, .bool sp] (by rfl) (by rfl) (World.news_of_block (cs := #[.int .i64 next, .int .i64 a, .int .i64 b, .slice (some ⟨gg, 0, none⟩) l.length l.length, .bool sp]) (t := 82) (fr := (0, 0)) (heap_alloc_new wz _)) (by simp [Value.oneCell']) (by omega) (by unfold maxLen; omega) (by omega) (by simp; omega) (wz.heap.size + 1) (by simp) ?_; intro g5 cap w5 hown5 hgrow hat hltg; have q0 : w5.cell? ⟨g, 3, none⟩ = some (.slice A0 fs.length c0) := (hgrow.cell_far ⟨g, 3, none⟩ (by simp; omega) (Ne.symm hvg)).trans (by rw [World.cell?_drew, World.cell?_alloc_past _ _ _ hgz]; exact n3); have q1 : w5.frozen? ⟨g, 3, none⟩ = false := (hgrow.frozen_far ⟨g, 3, none⟩ (by simp; omega) (Ne.symm hvg)).trans (by rw [World.frozen?_drew, World.frozen?_alloc_past _ _ _ hgz]; exact fg3)))
  all_goals
    have hvs : v.ownBlock ≠ some w.heap.size := fun e => by have := HVL.out _ e; omega
    have hgrow' : ((wz.alloc (.cells #[.int .i64 next, .int .i64 a, .int .i64 b, .slice (some ⟨gg, 0, none⟩) l.length l.length, .bool sp] 82)).drew).grownBy w5 v.ownBlock := by rw [HV0.out]; exact hgrow
    have q2 : w5.cell? ⟨w.heap.size, 0, none⟩ = some (.int .i64 next) := (hgrow'.cell_far ⟨w.heap.size, 0, none⟩ (by simp; omega) (Ne.symm hvs)).trans (by rw [World.cell?_drew, World.cell?_alloc_past _ _ _ hsz]; exact k0)
    have hz5 := Lib.hid (((Chg.refl (fun k => v.ownBlock = some k) wz).alloc (.cells #[.int .i64 next, .int .i64 a, .int .i64 b, .slice (some ⟨gg, 0, none⟩) l.length l.length, .bool sp] 82)).drew.grown hgrow' (fun k hk => .inl hk))
    have hg5 : w5.heap[g]? = some (.cells #[.int .i64 nodes, .int .i64 most, .int .i64 (next + 1), v] 79 (0, 0)) := (hz5.out.block g hgz HVG.out).trans HZ2.out
    have hfl : fflat fs ++ [.int .i64 next, .int .i64 a, .int .i64 b, .slice (some ⟨gg, 0, none⟩) l.length l.length, .bool sp] = fflat (fs ++ [⟨next, a, b, l, sp, .slice (some ⟨gg, 0, none⟩) l.length l.length⟩]) := by rw [fflat_append, fflat_one]; rfl
    rw [hfl] at hown5
    have hg5ne : g5 ≠ g := by
      rcases hat with h | h
      · intro e; rw [e] at h; exact hvg h
      · omega
    have hset := Chg.setCell (S := fun k => k = g) (Chg.refl _ w5) (p := ⟨g, 3, none⟩) (.inl rfl) (.slice (some ⟨g5, 0, none⟩) (fs.length + 1) cap)
    have hO5 := Lib.hid (own_set hown5 (p := ⟨g, 3, none⟩) (by simp [Value.ownBlock]; omega) (.slice (some ⟨g5, 0, none⟩) (fs.length + 1) cap))
    have hkeep : ∀ {u : Value} {l' : List UInt8}, wz.ownsRow base 5 1 u l'.length (vals l') → (w5.setCell ⟨g, 3, none⟩ (.slice (some ⟨g5, 0, none⟩) (fs.length + 1) cap)).ownsRow base 5 1 u l'.length (vals l') := fun {u l'} hu => by
      have h1 : w5.ownsRow base 5 1 u l'.length (vals l') := by
        refine own_chg hu hz5.out fun k hk hk2 => ?_
        rcases HOV.out.2 with ⟨h, _⟩ | ⟨k', cap', cur', h, _, hh, _⟩
        · rw [HV0.out, h] at hk2; simp [Value.ownBlock] at hk2
        · rw [HV0.out, h] at hk2
          have hkk : k' = k := by simpa [Value.ownBlock] using hk2
          subst hkk
          exact own_ne hu hh (by decide) hk
      exact own_set h1 (p := ⟨g, 3, none⟩) (own_ne h1 hg5 (by decide)) _
    have hHK := Lib.hid (fun f hf => hkeep (HOL.out f hf))
    have hHV := Lib.hid (hkeep (World.ownsRow.mono HOVV.out (by have := HS1.out; omega)))
    have hG5 := Lib.hid (show (w5.setCell ⟨g, 3, none⟩ (.slice (some ⟨g5, 0, none⟩) (fs.length + 1) cap)).heap[g]? = some (.cells #[.int .i64 nodes, .int .i64 most, .int .i64 (next + 1), .slice (some ⟨g5, 0, none⟩) (fs.length + 1) cap] 79 (0, 0)) by simp [World.setCell, Array.getElem?_modify, hg5])
    have hC5 := Lib.hid (((Chg.ofBelow (S := fun k => k = g ∨ v.ownBlock = some k) BB3.out).trans' HZ3.out (fun k hk h => by rcases h with h | h; (omega); exact .inl h)).trans' ((hz5.out.mono (S' := fun k => k = g ∨ v.ownBlock = some k) (fun k _ h => .inr h)).trans' hset (fun k _ h => .inl h)) (fun k _ h => h))
    have hAT := Lib.hid (show (Value.slice (some ⟨g5, 0, none⟩) (fs.length + 1) cap).ownBlock = v.ownBlock ∨ ∃ k, (Value.slice (some ⟨g5, 0, none⟩) (fs.length + 1) cap).ownBlock = some k ∧ w.heap.size ≤ k by
      rcases hat with h | h
      · left; rw [HV0.out]; exact h.symm ▸ rfl
      · right; exact ⟨g5, rfl, by omega⟩)
    clear hown5 hgrow hgrow' hat hfl hkeep hset hg5 n3 fg3 k0 k1 k2 k3 k4
    go_wp2
    go_ret
    refine ⟨.slice (some ⟨g5, 0, none⟩) (fs.length + 1) cap, .slice (some ⟨gg, 0, none⟩) l.length l.length, rfl, ⟨hG5.out, HL.out.2.1, ?_, ?_, ?_⟩, hAT.out, hC5.out⟩
    · rw [List.length_append]; exact hO5.out
    · intro f hf
      rcases List.mem_append.1 hf with h | h
      · exact hHK.out f h
      · rw [List.mem_singleton.1 h]; exact hHV.out
    · rw [List.map_append, List.map_singleton]
      refine List.pairwise_append.2 ⟨HL.out.2.2.2.2, List.pairwise_singleton _ _, fun u hu y hy => ?_⟩
      obtain ⟨f, hf, rfl⟩ := List.mem_map.1 hu
      rw [List.mem_singleton.1 hy]
      exact Apart.fresh (HL.out.2.2.2.1 f hf) (fun k hk => by
        have := (HOVV.out.lt k hk).1
        have := HS1.out
        omega)
end Go.Proofs.Ytejlpdcoaejciaa
