/- LinkFull: the walk. -/
import Derived.Test.YtejlpdcoaejciaaLinkFull
namespace Go.Proofs.Ytejlpdcoaejciaa
open Go.ChangeShapes Go.WideShapes Go.ChangeAt Go.RowKit

theorem packetinfo : (Try.prog.info? 36).map (fun i => (i.zero, i.size, i.bytes)) = some (some (.agg #[.int .i64 0, .int .i64 0, .slice none 0 0]), 3, 40) := by kernel_rfl

/-- Send of the first m packets, where there is room or not. -/
def FullSend (base g : Nat) (N next : Int) (v : Value) (fs : List FlightR) (m : Nat) (w : World) (e : Ending) (w' : World) : Prop :=
  if N < (fs.length : Int) + (m : Int) then e = .returned (.tuple #[.int .i64 0, .int .i64 161]) ∧ Below w.heap.size w w'
  else ∃ v' gs, e = .returned (.tuple #[.int .i64 next, .int .i64 0]) ∧ gs.length = m ∧ (∀ (i : Nat) (h : i < gs.length), gs[i].num = next + (i : Int) ∧ gs[i].l.length = 1) ∧ LinkAt w' base g 2 N (next + (m : Int)) v' (fs ++ gs) ∧ Chg (fun k => k = g ∨ v.ownBlock = some k) w w'
theorem full_send {w : World} {base base' g b n c : Nat} {N next : Int} {v : Value} {fs : List FlightR} {qs : List PkV} (m : Nat) (hL : LinkAt w base g 2 N next v fs) (hpo : PkOwn w base' (.slice (some ⟨b, 0, none⟩) n c) qs)
    (hq : ∀ q ∈ qs, q.p.a = 0 ∧ q.p.b = 1 ∧ q.p.l.length = 1) (hm : m ≤ qs.length) (hm1 : m ≤ 100) (hb : base ≤ w.heap.size) (hfs : fs.length ≤ 1048576) (hN0 : 0 ≤ N) (hN1 : N ≤ 1048576) (hn0 : 0 ≤ next) (hn1 : next ≤ 4611686018426339328) :
    Calls Try.prog 16 #[.pointer (some ⟨g, 0, none⟩), .slice (some ⟨b, 0, none⟩) m c] w (FullSend base g N next v fs m w) := by
  obtain ⟨ps, hps⟩ : ∃ ps, ps = (qs.map (·.p)).take m := ⟨_, rfl⟩
  have hpl : ps.length = m := by rw [hps, List.length_take, List.length_map]; omega
  have hmem : ∀ p ∈ ps, p.a = 0 ∧ p.b = 1 ∧ p.l.length = 1 := fun p hp => by
    rw [hps] at hp
    obtain ⟨q, hq', rfl⟩ := List.mem_map.1 (List.mem_of_mem_take hp)
    exact hq q hq'
  have hsd := send_any base g 2 N next v fs (some ⟨b, 0, none⟩) c ps w hL (fun w' hc => by rw [hps]; exact (hpo.link hL hc).at m) (fun p hp => by have := (hmem p hp).2.2; omega) hb hfs hN0 hN1 hn0 hn1 (by omega)
  rw [hpl] at hsd
  refine hsd.mono ?_
  intro e w' h
  unfold SendIs at h
  rw [if_pos (fun p hp => by obtain ⟨h1, h2, _⟩ := hmem p hp; unfold goodP; rw [h1, h2]; omega), hpl] at h
  unfold FullSend
  by_cases hf : N - (fs.length : Int) < (m : Int)
  · rw [if_pos hf] at h
    rw [if_pos (by omega)]
    exact h
  · rw [if_neg hf] at h
    rw [if_neg (by omega)]
    obtain ⟨v', gs, rfl, hL', ⟨hg1, hg2⟩, _, hch⟩ := h
    refine ⟨v', gs, rfl, by rw [hg1, hpl], fun i hi => ?_, hL', hch⟩
    obtain ⟨h1, _, _, h4, _⟩ := hg2 i (by omega) hi
    exact ⟨h1, by rw [h4]; exact (hmem _ (List.getElem_mem _)).2.2⟩

set_option maxHeartbeats 1600000 in
set_option maxRecDepth 100000 in
theorem full_walk (most many : Int) (w : World) : Calls Try.prog 6 #[.int .i64 most, .int .i64 many] w (Lawful w) := by
  obtain ⟨N, hN⟩ : ∃ N : Nat, (N : Int) = most % 60 := ⟨(most % 60).toNat, by omega⟩
  have hN60 : N < 60 := by omega
  have HN := Lib.hid hN
  have HI := Lib.hid packetinfo
  clear hN
  go_enter Try.func6, Try.ntmps6
  go_wp2_with (fail)
  refine (pick16_any most 60 w (by omega) (by omega)).mono ?_
  rintro e w0 ⟨rfl, rfl⟩
  rw [← HN.out]
  go_wp2_with (fail)
  refine (new_good 2 (N : Int) (by omega) (by omega) (by omega) (by omega) w).mono ?_
  rintro e w1 ⟨rfl, hw1⟩
  have hL1 : LinkAt w1 w.heap.size w.heap.size 2 (N : Int) 0 (.slice none 0 0) [] := by
    rw [← hw1]
    exact ⟨heap_alloc_new w _, Nat.le_refl _, ⟨rfl, .inl ⟨rfl, rfl⟩⟩, fun f h => by simp at h, List.Pairwise.nil⟩
  have hB1 : Below w.heap.size w w1 := by rw [← hw1]; exact (Below.refl _ _).alloc (Nat.le_refl _) _
  have hsz1 : w.heap.size < w1.heap.size := by rw [← hw1]; simp
  have HL1 := Lib.hid hL1
  have HB1 := Lib.hid hB1
  clear hw1 hL1 hB1
  go_wp2
  go_loopw [7, 8] (fun v i' wr => ∃ (k : Nat) (qs : List PkV), k ≤ N + 1 ∧ i' = .int .i64 (k : Int) ∧ qs.length = k ∧ (∀ q ∈ qs, q.p.a = 0 ∧ q.p.b = 1 ∧ q.p.l.length = 1) ∧ PkOwn wr w1.heap.size v qs ∧ Below w1.heap.size w1 wr) (fun _ i' _ => N + 1 - (intOf i').toNat)
  case atStart => exact ⟨0, [], Nat.zero_le _, rfl, rfl, fun q h => (by simp at h), ⟨⟨rfl, .inl ⟨rfl, rfl⟩⟩, fun q h => by simp at h⟩, Below.refl _ _⟩
  case round =>
    obtain ⟨k, qs, hk, rfl, hql, hqs, hpo, hb⟩ := hrel
    have HQL := Lib.hid hql
    have HQS := Lib.hid hqs
    have HPO := Lib.hid hpo
    have HB := Lib.hid hb
    clear hql hqs hpo hb
    by_cases hlt : k ≤ N
    · have hlti : (k : Int) ≤ (N : Int) := by omega
      go_wp2_with (at_builtin; refine Hid.out ?_)
      refine Lib.hid ?_
      have hsz := HB.out.size
      refine wpList_append_at _ rfl _ _ 41 rfl w1.heap.size 36 _ 3 40 Try.underlying41 HI.out rfl (by omega) u7 qs.length (pflat qs) rfl ((HPO.out.1.alloc _).alloc _) ⟨wr.heap.size + 1, 0, none⟩ 1 1 [.int .i64 0, .int .i64 1, .slice (some ⟨wr.heap.size, 0, none⟩) 1 1] rfl rfl (World.news_of_block (cs := #[.int .i64 0, .int .i64 1, .slice (some ⟨wr.heap.size, 0, none⟩) 1 1]) (t := 36) (fr := (0, 0)) (by have := heap_alloc_new (wr.alloc (.cells #[.int .u8 (k : Int)] 5)) (.cells #[.int .i64 0, .int .i64 1, .slice (some ⟨wr.heap.size, 0, none⟩) 1 1] 36); rwa [World.size_alloc] at this)) (by simp [Value.oneCell']) (by have := HQL.out; unfold maxLen; omega) (by have := HQL.out; omega) (by simp; omega) ?_
      intro v3 w3 hown3 hgrow3 _
      obtain ⟨q, hq⟩ : ∃ q : PkV, q = ⟨⟨0, 1, [UInt8.ofNat k]⟩, .slice (some ⟨wr.heap.size, 0, none⟩) 1 1⟩ := ⟨_, rfl⟩
      have hfl : pflat qs ++ [.int .i64 0, .int .i64 1, .slice (some ⟨wr.heap.size, 0, none⟩) 1 1] = pflat (qs ++ [q]) := by rw [pflat_append, hq]; rfl
      rw [hfl] at hown3
      have hB0 : Below wr.heap.size wr ((wr.alloc (.cells #[.int .u8 (k : Int)] 5)).alloc (.cells #[.int .i64 0, .int .i64 1, .slice (some ⟨wr.heap.size, 0, none⟩) 1 1] 36)) := ((Below.refl _ _).alloc (Nat.le_refl _) _).alloc (by simp) _
      have hB3 := (HB.out.trans (hB0.mono hsz)).grown hgrow3 (by have := hB0.size; omega) (fun x hx => (HPO.out.1.lt x hx).1)
      have hnewo : ((wr.alloc (.cells #[.int .u8 (k : Int)] 5)).alloc (.cells #[.int .i64 0, .int .i64 1, .slice (some ⟨wr.heap.size, 0, none⟩) 1 1] 36)).ownsRow w1.heap.size 5 1 (.slice (some ⟨wr.heap.size, 0, none⟩) 1 1) 1 (vals [UInt8.ofNat k]) := by
        have := (World.ownsRow_lit (base := w1.heap.size) (e := 5) (size := 1) wr #[.int .u8 (k : Int)] 1 hsz (by unfold maxLen; omega) rfl).alloc (.cells #[.int .i64 0, .int .i64 1, .slice (some ⟨wr.heap.size, 0, none⟩) 1 1] 36)
        have hv : vals [UInt8.ofNat k] = (#[.int .u8 (k : Int)] : Array Value).toList := by
          simp [vals, u8, UInt8.toNat_ofNat']
          omega
        rw [hv]; exact this
      have hkeep : ∀ {u : Value} {l' : List UInt8}, ((wr.alloc (.cells #[.int .u8 (k : Int)] 5)).alloc (.cells #[.int .i64 0, .int .i64 1, .slice (some ⟨wr.heap.size, 0, none⟩) 1 1] 36)).ownsRow w1.heap.size 5 1 u l'.length (vals l') → w3.ownsRow w1.heap.size 5 1 u l'.length (vals l') := fun {u l'} hu =>
        own_chg hu (grown_chg hgrow3) (fun x hx hs => own_not hu ((HPO.out.1.alloc _).alloc _) (by decide) x hx hs)
      have HPO3 := Lib.hid (show PkOwn w3 w1.heap.size v3 (qs ++ [q]) from ⟨by rw [List.length_append]; exact hown3, fun y hy => by
        rcases List.mem_append.1 hy with h | h
        · exact hkeep (own_kept (HPO.out.2 y h) hB0)
        · rw [List.mem_singleton.1 h, hq]; exact hkeep hnewo⟩)
      have HB3 := Lib.hid hB3
      have HQ := Lib.hid hq
      clear hown3 hgrow3 hq hfl hB0 hB3 hnewo hkeep hsz
      go_wp2
      go_roundw
      case rel =>
        refine ⟨k + 1, qs ++ [q], by omega, by go_num, by rw [List.length_append, HQL.out]; rfl, fun y hy => ?_, HPO3.out, HB3.out⟩
        rcases List.mem_append.1 hy with h | h
        · exact HQS.out y h
        · rw [List.mem_singleton.1 h, HQ.out]; exact ⟨rfl, rfl, rfl⟩
      case measure => simp [intOf]; omega
    · obtain rfl : k = N + 1 := by omega
      have hql := HQL.out
      have hsz := HB.out.size
      obtain ⟨b, c, rfl, _, _, hcc, _⟩ : ∃ g cap, u7 = .slice (some ⟨g, 0, none⟩) qs.length cap ∧ w1.heap.size ≤ g ∧ g < wr.heap.size ∧ qs.length ≤ cap ∧ cap ≤ 9223372036854775807 := by
        rcases HPO.out.1.2 with ⟨_, h0⟩ | ⟨g, cap, cur, h1, hg, hh, h3, h4, _⟩
        · omega
        · exact ⟨g, cap, h1, hg, (Array.getElem?_eq_some_iff.1 hh).1, h3, by simpa [maxLen] using h4⟩
      have hL := HL1.out.kept HB.out
      have HLr := Lib.hid hL
      have HPr := HPO
      have HS1 := Lib.hid (full_send (N + 1) hL HPO.out HQS.out (by omega) (by omega) (by omega) (by simp) (by omega) (by omega) (by omega) (by omega))
      rw [hql] at HPr hcc ⊢
      clear hql hL
      go_wp2_with (fail)
      refine HS1.out.mono ?_
      intro e w2 h
      unfold FullSend at h
      rw [if_pos (by simp; omega)] at h
      obtain ⟨rfl, hb2⟩ := h
      have HL2 := Lib.hid (HLr.out.kept hb2)
      have HP2 := Lib.hid (HPr.out.kept hb2)
      have B2 := Lib.hid (HB1.out.trans ((HB.out.trans (hb2.mono hsz)).mono (by omega)))
      have hsz2 : w1.heap.size ≤ w2.heap.size := by have := hb2.size; omega
      have HLN := Lib.hid (len16_any HL2.out)
      have HNX := Lib.hid (next16_any HL2.out)
      clear hb2
      go_wp2_with (fail)
      refine HLN.out.mono ?_
      rintro e w3 ⟨rfl, rfl⟩
      go_wp2_with (fail)
      refine HNX.out.mono ?_
      rintro e w3 ⟨rfl, rfl⟩
      obtain ⟨s, hs⟩ : ∃ s : Nat, (s : Int) = many % ((N : Int) + 1) := ⟨(many % ((N : Int) + 1)).toNat, by have := Int.emod_nonneg many (show (N : Int) + 1 ≠ 0 by omega); omega⟩
      have hsN : s ≤ N := by have := Int.emod_lt_of_pos many (show (0 : Int) < (N : Int) + 1 by omega); omega
      have HSS := Lib.hid hs
      clear hs
      go_wp2_with (fail)
      refine (pick16_any many ((N : Int) + 1) w2 (by omega) (by omega)).mono ?_
      rintro e w3 ⟨rfl, rfl⟩
      rw [← HSS.out]
      have HS2 := Lib.hid (full_send s HL2.out HP2.out HQS.out (by have := HQL.out; omega) (by omega) (by omega) (by simp) (by omega) (by omega) (by omega) (by omega))
      have hsc : (s : Int) ≤ (c : Int) := by omega
      go_wp2_with (fail)
      refine HS2.out.mono ?_
      intro e w4 h
      unfold FullSend at h
      rw [if_neg (by simp; omega)] at h
      obtain ⟨v4, gs, rfl, hgl, hgn, hL4, hch4⟩ := h
      have HP4 := Lib.hid (HP2.out.link HL2.out hch4)
      have B4 := Lib.hid (B2.out.trans (hch4.toBelow (by omega) (fun k hk => by
        rcases hk with h | h
        · omega
        · cases h)))
      have hsz4 := hch4.size
      rw [List.nil_append] at hL4
      obtain ⟨r, hr⟩ : ∃ r : Nat, (N : Int) - (s : Int) = (r : Int) := ⟨N - s, by omega⟩
      have hrN : s + r = N := by omega
      have HR := Lib.hid hrN
      have HR2 := Lib.hid hr
      have hr1 : s + r ≤ N := by omega
      have hr2 : N ≤ s + r := by omega
      have HL4 := Lib.hid hL4
      have HGL := Lib.hid hgl
      have HGN := Lib.hid hgn
      have HS3 := Lib.hid (full_send (r + 1) hL4 HP4.out HQS.out (by have := HQL.out; omega) (by omega) (by omega) (by omega) (by omega) (by omega) (by omega) (by omega))
      have hsub : IntKind.i64.wrap ((N : Int) - (s : Int)) = (r : Int) := by rw [IntKind.wrap_i64]; omega
      have hrc : (r : Int) + 1 ≤ (c : Int) := by omega
      have hr10 : (0 : Int) ≤ (r : Int) + 1 := by omega
      clear hgl hgn hL4 hch4 hrN
      go_wp2_with (fail)
      refine HS3.out.mono ?_
      intro e w5 h
      unfold FullSend at h
      rw [if_pos (by have := HGL.out; omega)] at h
      obtain ⟨rfl, hb5⟩ := h
      have HL5 := Lib.hid (HL4.out.kept hb5)
      have HP5 := Lib.hid (HP4.out.kept hb5)
      have B5 := Lib.hid (B4.out.trans (hb5.mono B4.out.size))
      have hsz5 := hb5.size
      have HS4 := Lib.hid (full_send r HL5.out HP5.out HQS.out (by have := HQL.out; omega) (by omega) (by omega) (by have := HGL.out; omega) (by omega) (by omega) (by omega) (by omega))
      have hrc2 : (r : Int) ≤ (c : Int) := by omega
      clear hb5
      go_wp2_with (fail)
      refine HS4.out.mono ?_
      intro e w6 h
      unfold FullSend at h
      rw [if_neg (by have := HGL.out; omega)] at h
      obtain ⟨v6, gs2, rfl, hgl2, hgn2, hL6, hch6⟩ := h
      obtain ⟨fs, hfs⟩ : ∃ fs, fs = gs ++ gs2 := ⟨_, rfl⟩
      have hfl : fs.length = N := by have := HGL.out; have := HR.out; rw [hfs, List.length_append]; omega
      have hnum : ∀ (i : Nat) (h : i < fs.length), fs[i].num = (i : Int) ∧ fs[i].l.length = 1 := by
        subst hfs
        intro i h
        have hg := HGL.out
        by_cases hi : i < gs.length
        · rw [List.getElem_append_left hi]
          have := HGN.out i hi
          exact ⟨by rw [this.1]; omega, this.2⟩
        · rw [List.getElem_append_right (by omega)]
          have := hgn2 (i - gs.length) (by rw [List.length_append] at h; omega)
          exact ⟨by rw [this.1]; omega, this.2⟩
      rw [← hfs] at hL6
      have HP6 := Lib.hid (HP5.out.link HL5.out hch6)
      have B6 := Lib.hid (B5.out.trans (hch6.toBelow (by omega) (fun k hk => by
        rcases hk with h | h
        · omega
        · exact (HL5.out.2.2.1.lt k h).1)))
      have hsz6 := hch6.size
      have hnx : (0 : Int) + (s : Int) + (r : Int) = (N : Int) := by have := HR.out; omega
      rw [hnx] at hL6
      have hlen6 := len16_any hL6
      rw [hfl] at hlen6
      have HLN6 := Lib.hid hlen6
      have HL6 := Lib.hid hL6
      have HFL := Lib.hid hfl
      have HNU := Lib.hid hnum
      clear hgl2 hgn2 hL6 hch6 hfs hfl hnum hlen6 hnx
      go_wp2_with (fail)
      refine HLN6.out.mono ?_
      rintro e w7 ⟨rfl, rfl⟩
      by_cases hN0 : N = 0
      · have hNi : ((N : Int) == 0) = true := by rw [hN0]; rfl
        clear hN0
        go_wp2
        go_ret
        exact ⟨rfl, B6.out⟩
      · have hNi : ((N : Int) == 0) = false := by rw [beq_eq_false_iff_ne]; omega
        have hNp : 0 < N := by omega
        have hsort : ∀ i j (hi : i < fs.length) (hj : j < fs.length), i < j → fs[i].num < fs[j].num := fun i j hi hj h => by
          rw [(HNU.out i hi).1, (HNU.out j hj).1]; omega
        have hlens : ∀ f ∈ fs, f.l.length ≤ 140737488351232 := fun f hf => by
          obtain ⟨i, hi, rfl⟩ := List.mem_iff_getElem.1 hf
          have := (HNU.out i hi).2
          omega
        obtain ⟨t1, ht1⟩ : ∃ t1 : Nat, (t1 : Int) = many % (N : Int) := ⟨(many % (N : Int)).toNat, by have := Int.emod_nonneg many (show (N : Int) ≠ 0 by omega); omega⟩
        have ht1N : t1 < N := by have := Int.emod_lt_of_pos many (show (0 : Int) < (N : Int) by omega); omega
        have HT1 := Lib.hid ht1
        have HSO := Lib.hid hsort
        have HLE := Lib.hid hlens
        clear ht1 hsort hlens hN0
        go_wp2_with (fail)
        refine (pick16_any many (N : Int) w6 (by omega) (by omega)).mono ?_
        rintro e w7 ⟨rfl, rfl⟩
        rw [← HT1.out]
        have HCP := Lib.hid (copy16_any w.heap.size w.heap.size 2 (N : Int) (N : Int) v6 fs (t1 : Int) w6 HL6.out (by omega) (by have := HFL.out; omega) HSO.out (by omega) (by omega) HLE.out)
        go_wp2_with (fail)
        refine HCP.out.mono ?_
        intro e w8 h
        have h8 : e = .returned (.tuple #[.int .i64 0, .int .i64 161]) ∧ Below w6.heap.size w6 w8 := by
          have hfl := HFL.out
          rcases h with ⟨_, hno, _⟩ | ⟨i, hi, _, ⟨_, h1, h2⟩ | ⟨h1, _⟩⟩
          · exact absurd (HNU.out t1 (by omega)).1 (hno _ (List.getElem_mem _))
          · exact ⟨h1, h2⟩
          · exact absurd (by omega) h1
        obtain ⟨rfl, hb8⟩ := h8
        have HL8 := Lib.hid (HL6.out.kept hb8)
        have HP8 := Lib.hid (HP6.out.kept hb8)
        have B8 := Lib.hid (B6.out.trans (hb8.mono B6.out.size))
        have hsz8 := hb8.size
        clear h hb8
        have HCP2 := Lib.hid (copy16_any w.heap.size w.heap.size 2 (N : Int) (N : Int) v6 fs (N : Int) w8 HL8.out (by omega) (by have := HFL.out; omega) HSO.out (by omega) (by omega) HLE.out)
        go_wp2_with (fail)
        refine HCP2.out.mono ?_
        intro e w9 h
        have h9 : e = .returned (.tuple #[.int .i64 0, .int .i64 160]) ∧ Below w8.heap.size w8 w9 := by
          have hfl := HFL.out
          rcases h with ⟨h1, _, h2⟩ | ⟨i, hi, h1, _⟩
          · exact ⟨h1, h2⟩
          · have := (HNU.out i hi).1; omega
        obtain ⟨rfl, hb9⟩ := h9
        have HL9 := Lib.hid (HL8.out.kept hb9)
        have HP9 := Lib.hid (HP8.out.kept hb9)
        have B9 := Lib.hid (B8.out.trans (hb9.mono B8.out.size))
        have hsz9 := hb9.size
        clear h hb9
        go_wp2_with (fail)
        refine (pick16_any _ (N : Int) w9 (by omega) (by omega)).mono ?_
        rintro e w10 ⟨rfl, rfl⟩
        generalize hx : (wrap64 (many + 1)) = x
        obtain ⟨t2, ht2⟩ : ∃ t2 : Nat, (t2 : Int) = x % (N : Int) := ⟨(x % (N : Int)).toNat, by have := Int.emod_nonneg x (show (N : Int) ≠ 0 by omega); omega⟩
        have ht2N : t2 < N := by have := Int.emod_lt_of_pos x (show (0 : Int) < (N : Int) by omega); omega
        rw [← ht2]
        clear hx ht2
        have HDR := Lib.hid (drop16_any w.heap.size w.heap.size 2 (N : Int) (N : Int) v6 fs (t2 : Int) w9 HL9.out (by have := HFL.out; omega) HSO.out)
        go_wp2_with (fail)
        refine HDR.out.mono ?_
        intro e w10 h
        have h10 : e = .returned (.int .i64 0) ∧ ∃ v' fs', fs'.length + 1 = N ∧ LinkAt w10 w.heap.size w.heap.size 2 (N : Int) (N : Int) v' fs' ∧ Chg (fun j => j = w.heap.size ∨ v6.ownBlock = some j) w9 w10 := by
          have hfl := HFL.out
          rcases h with ⟨_, hno, _⟩ | ⟨i, hi, _, h1, v', h2, _, h3⟩
          · exact absurd (HNU.out t2 (by omega)).1 (hno _ (List.getElem_mem _))
          · exact ⟨h1, v', _, by rw [List.length_eraseIdx_of_lt hi]; omega, h2, h3⟩
        obtain ⟨rfl, v10, fs10, hfl10, hL10, hch10⟩ := h10
        have HP10 := Lib.hid (HP9.out.link HL9.out hch10)
        have B10 := Lib.hid (B9.out.trans (hch10.toBelow (by omega) (fun k hk => by
          rcases hk with h | h
          · omega
          · exact (HL9.out.2.2.1.lt k h).1)))
        have hsz10 := hch10.size
        have hfa : fs10.length + 1 ≤ N := by omega
        have hfb : N ≤ fs10.length + 1 := by omega
        have HL10 := Lib.hid hL10
        clear h hfl10 hL10 hch10
        -- the first packet once more
        obtain ⟨q0, hq0⟩ : ∃ q0, q0 = qs[0]'(by have := HQL.out; omega) := ⟨_, rfl⟩
        have hq0m : q0 ∈ qs := by rw [hq0]; exact List.getElem_mem _
        obtain ⟨ha0, hb0, hl0⟩ := HQS.out q0 hq0m
        have hzc : ∀ W, PkOwn W w1.heap.size (.slice (some ⟨b, 0, none⟩) (N + 1) c) qs → W.cell? ⟨b, 0, none⟩ = some (.int .i64 0) ∧ W.cell? ⟨b, 1, none⟩ = some (.int .i64 1) ∧ W.cell? ⟨b, 2, none⟩ = some q0.v := fun W hpw => by
          obtain ⟨f0, f1, f2⟩ := pflat_get qs 0 (by have := HQL.out; omega)
          rw [← hq0] at f0 f1 f2
          have hc : ∀ j, j < 3 → W.cell? ⟨b, j, none⟩ = (pflat qs)[j]? := fun j hj => by
            have h := hpw.1
            rw [HQL.out] at h
            exact h.cellAt j (by omega)
          exact ⟨by rw [hc 0 (by omega), show (0 : Nat) = 0 * 3 from rfl, f0, ha0], by rw [hc 1 (by omega), show (1 : Nat) = 0 * 3 + 1 from rfl, f1, hb0], by rw [hc 2 (by omega), show (2 : Nat) = 0 * 3 + 2 from rfl, f2]⟩
        have HZC := Lib.hid hzc
        obtain ⟨z0, z1, z2⟩ := hzc w10 HP10.out
        clear hzc
        obtain ⟨_, qA, qc, hqv, _, _, _, _⟩ := own_bytes (HP10.out.2 q0 hq0m)
        rw [hl0] at hqv
        have hPk : ∀ (W W' : World), PkOwn W w1.heap.size (.slice (some ⟨b, 0, none⟩) (N + 1) c) qs → w.heap.size ≤ W.heap.size → W' = W.alloc (.cells #[.int .i64 0, .int .i64 1, q0.v] 36) → PkOwn W' 0 (.slice (some ⟨W.heap.size, 0, none⟩) 1 1) [q0] := fun W W' hp _ hW => by
          subst hW
          refine ⟨?_, fun q hq => ?_⟩
          · have := World.ownsRow_lit (base := 0) (e := 36) (size := 3) W #[.int .i64 0, .int .i64 1, q0.v] 1 (Nat.zero_le _) (by unfold maxLen; omega) rfl
            have hpf : pflat [q0] = (#[.int .i64 0, .int .i64 1, q0.v] : Array Value).toList := by
              simp [pflat, pcells, ha0, hb0]
            rw [hpf]; exact this
          · rw [List.mem_singleton.1 hq]
            exact World.ownsRow.mono ((hp.2 q0 hq0m).alloc _) (Nat.zero_le _)
        have hq1 : ∀ q ∈ [q0], q.p.a = 0 ∧ q.p.b = 1 ∧ q.p.l.length = 1 := fun q hq => by rw [List.mem_singleton.1 hq]; exact ⟨ha0, hb0, hl0⟩
        have HPK := Lib.hid hPk
        have HQ1 := Lib.hid hq1
        have HQV := Lib.hid hqv
        have hQA : ∃ A' c', q0.v = .slice A' 1 c' := ⟨qA, qc, hqv⟩
        obtain ⟨V0, hV0⟩ : ∃ V0, V0 = q0.v := ⟨_, rfl⟩
        rw [← hV0] at z2 hqv
        have HV0 := Lib.hid hV0
        obtain ⟨w11, hw11⟩ : ∃ w11, w11 = w10.alloc (.cells #[.int .i64 0, .int .i64 1, q0.v] 36) := ⟨_, rfl⟩
        have hb11 : Below w10.heap.size w10 w11 := by rw [hw11]; exact (Below.refl _ _).alloc (Nat.le_refl _) _
        have HL11 := Lib.hid (HL10.out.kept hb11)
        have HS11 := Lib.hid (full_send 1 HL11.out (hPk w10 w11 HP10.out (by omega) hw11) hq1 (by simp) (by omega) (by have := hb11.size; omega) (by omega) (by omega) (by omega) (by omega) (by omega))
        have HP11 := Lib.hid (HP10.out.kept hb11)
        have B11 := Lib.hid (B10.out.trans (hb11.mono B10.out.size))
        have hsz11 := hb11.size
        rw [← hV0] at hw11
        have HW11 := Lib.hid hw11
        clear hPk hq1 hV0 hw11 hb11 hQA ha0 hb0 hl0 hq0m hq0
        subst hqv
        have hqs0 : (0 : Int) < (N : Int) + 1 := by omega
        go_wp2_with (fail)
        rw [← HW11.out]
        refine HS11.out.mono ?_
        intro e w12 h
        unfold FullSend at h
        rw [if_neg (by omega)] at h
        obtain ⟨v12, gs12, rfl, hgl12, _, hL12, hch12⟩ := h
        have HP12 := Lib.hid (HP11.out.link HL11.out hch12)
        have B12 := Lib.hid (B11.out.trans (hch12.toBelow (by omega) (fun k hk => by
          rcases hk with h | h
          · omega
          · exact (HL11.out.2.2.1.lt k h).1)))
        have hsz12 := hch12.size
        have hfl12 : (fs10 ++ gs12).length = N := by rw [List.length_append]; omega
        rw [show (N : Int) + ((1 : Nat) : Int) = (N : Int) + 1 by omega] at hL12
        obtain ⟨y0, y1, y2⟩ := HZC.out w12 HP12.out
        rw [← HV0.out] at y2
        obtain ⟨w13, hw13⟩ : ∃ w13, w13 = w12.alloc (.cells #[.int .i64 0, .int .i64 1, q0.v] 36) := ⟨_, rfl⟩
        have hb13 : Below w12.heap.size w12 w13 := by rw [hw13]; exact (Below.refl _ _).alloc (Nat.le_refl _) _
        have HL13 := Lib.hid (hL12.kept hb13)
        have HS13 := Lib.hid (full_send 1 HL13.out (HPK.out w12 w13 HP12.out (by omega) hw13) HQ1.out (by simp) (by omega) (by have := hb13.size; omega) (by omega) (by omega) (by omega) (by omega) (by omega))
        have B13 := Lib.hid (B12.out.trans (hb13.mono B12.out.size))
        rw [← HV0.out] at hw13
        have HW13 := Lib.hid hw13
        have HF12 := Lib.hid hfl12
        clear hL12 hch12 hgl12 hw13 hb13 hfl12 z0 z1 z2
        go_wp2_with (fail)
        rw [← HW13.out]
        refine HS13.out.mono ?_
        intro e w14 h
        unfold FullSend at h
        rw [if_pos (by rw [HF12.out]; omega)] at h
        obtain ⟨rfl, hb14⟩ := h
        have HNX14 := Lib.hid (next16_any (HL13.out.kept hb14))
        have B14 := Lib.hid (B13.out.trans (hb14.mono B13.out.size))
        clear hb14 y0 y1 y2
        go_wp2_with (fail)
        refine HNX14.out.mono ?_
        rintro e w15 ⟨rfl, rfl⟩
        go_wp2
        go_ret
        exact ⟨rfl, B14.out⟩
end Go.Proofs.Ytejlpdcoaejciaa
