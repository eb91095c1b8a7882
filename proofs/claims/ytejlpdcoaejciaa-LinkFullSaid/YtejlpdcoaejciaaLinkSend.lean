/- (*Link).Send, by its contract. -/
import Derived.Test.YtejlpdcoaejciaaLinkFind
import Derived.Deep.QuietTactic
import Derived.BigQuiet
namespace Go.Proofs.Ytejlpdcoaejciaa
open Go.RowKit

structure PacketR where
  a : Int
  b : Int
  l : List UInt8
/-- The slice that begins at A holds the packets ps. -/
def PkAt (w : World) (A : Option Addr) (ps : List PacketR) : Prop :=
  ∀ k (h : k < ps.length), ∃ b o v, A = some ⟨b, o, none⟩ ∧ b < w.heap.size ∧ w.cell? ⟨b, o + k * 3, none⟩ = some (.int .i64 ps[k].a) ∧ w.cell? ⟨b, o + k * 3 + 1, none⟩ = some (.int .i64 ps[k].b) ∧ w.cell? ⟨b, o + k * 3 + 2, none⟩ = some v ∧ IsBytes w v ps[k].l
theorem PkAt.below {w w' : World} {A : Option Addr} {ps : List PacketR} (h : PkAt w A ps) (hb : Below w.heap.size w w') : PkAt w' A ps := by
  intro k hk
  obtain ⟨b, o, v, hA, hl, h0, h1, h2, h3⟩ := h k hk
  have hs := hb.size
  exact ⟨b, o, v, hA, by omega, (hb.cell (p := ⟨b, _, none⟩) hl).trans h0, (hb.cell (p := ⟨b, _, none⟩) hl).trans h1, (hb.cell (p := ⟨b, _, none⟩) hl).trans h2, h3.below hb⟩

def goodP (nodes : Int) (p : PacketR) : Prop := 0 ≤ p.a ∧ p.a < nodes ∧ 0 ≤ p.b ∧ p.b < nodes
instance (nodes : Int) (p : PacketR) : Decidable (goodP nodes p) := by unfold goodP; infer_instance

/-- A new flight: of a packet, with a number, unspoilt. -/
def isNew (nx : Int) (p : PacketR) (f : FlightR) : Prop := f.num = nx ∧ f.a = p.a ∧ f.b = p.b ∧ f.l = p.l ∧ f.sp = false
/-- The new flights of packets, numbered on. -/
def News (next : Int) (ps : List PacketR) (gs : List FlightR) : Prop := gs.length = ps.length ∧ ∀ i (h : i < ps.length) (h' : i < gs.length), isNew (next + i) ps[i] gs[i]

def SendIs (base g : Nat) (nodes most next : Int) (v : Value) (fs : List FlightR) (ps : List PacketR) (w : World) (e : Ending) (w' : World) : Prop :=
  if ∀ p ∈ ps, goodP nodes p then
    if most - (fs.length : Int) < (ps.length : Int) then e = .returned (.tuple #[.int .i64 0, .int .i64 161]) ∧ Below w.heap.size w w'
    else ∃ v' gs, e = .returned (.tuple #[.int .i64 next, .int .i64 0]) ∧ LinkAt w' base g nodes most (next + (ps.length : Int)) v' (fs ++ gs) ∧ News next ps gs ∧ (v'.ownBlock = v.ownBlock ∨ ∃ k, v'.ownBlock = some k ∧ w.heap.size ≤ k) ∧ Chg (fun k => k = g ∨ v.ownBlock = some k) w w'
  else e = .returned (.tuple #[.int .i64 0, .int .i64 170]) ∧ Below w.heap.size w w'

theorem LinkAt.kept {w w' : World} {base g : Nat} {nodes most next : Int} {v : Value} {fs : List FlightR} (h : LinkAt w base g nodes most next v fs) (hb : Below w.heap.size w w') : LinkAt w' base g nodes most next v fs :=
  ⟨(hb.block g (Array.getElem?_eq_some_iff.1 h.1).1).trans h.1, h.2.1, own_kept h.2.2.1 hb, fun f hf => own_kept (h.2.2.2.1 f hf) hb, h.2.2.2.2⟩
theorem News.snoc {next : Int} {ps : List PacketR} {i : Nat} (hi : i < ps.length) {gs : List FlightR} (h : News next (ps.take i) gs) {f : FlightR} (hf : isNew (next + (i : Int)) ps[i] f) : News next (ps.take (i + 1)) (gs ++ [f]) := by
  obtain ⟨h1, h2⟩ := h
  rw [List.length_take, Nat.min_eq_left (by omega)] at h1
  refine ⟨by rw [List.length_append, List.length_take, List.length_singleton]; omega, fun j hj hj' => ?_⟩
  rw [List.length_take] at hj
  rw [List.getElem_take]
  by_cases hji : j < i
  · rw [List.getElem_append_left (by omega)]
    have := h2 j (by rw [List.length_take]; omega) (by omega)
    rwa [List.getElem_take] at this
  · obtain rfl : j = i := by omega
    rw [List.getElem_append_right (by omega)]
    simpa [h1] using hf

set_option maxHeartbeats 1600000 in
set_option maxRecDepth 100000 in
theorem send_any (base g : Nat) (nodes most next : Int) (v : Value) (fs : List FlightR) (A : Option Addr) (c : Nat) (ps : List PacketR) (w : World) (hL : LinkAt w base g nodes most next v fs) (hpc : ∀ w', Chg (fun k => k = g ∨ v.ownBlock = some k) w w' → PkAt w' A ps) (hpl : ∀ p ∈ ps, p.l.length ≤ 140737488351232)
    (hb : base ≤ w.heap.size) (hfs : fs.length ≤ 1048576) (hm0 : 0 ≤ most) (hm1 : most ≤ 1048576) (hn0 : 0 ≤ next) (hn1 : next ≤ 4611686018426339328) (hpn : ps.length ≤ 140737488351232) :
    Calls Try.prog 16 #[.pointer (some ⟨g, 0, none⟩), .slice A ps.length c] w (SendIs base g nodes most next v fs ps w) := by
  obtain ⟨A0, c0, hv0, hA0, hc0⟩ : ∃ A0 c0, v = .slice A0 fs.length c0 ∧ (A0 = none → fs.length = 0) ∧ fs.length ≤ c0 := by
    rcases hL.2.2.1.2 with ⟨h, h2⟩ | ⟨gg, cap, cur, h, _, _, h1, _⟩
    · exact ⟨none, 0, by rw [h, h2], fun _ => h2, by omega⟩
    · exact ⟨_, cap, h, (fun h => by cases h), h1⟩
  obtain ⟨n, hn⟩ : ∃ n, n = ps.length := ⟨_, rfl⟩
  have hgw := (Array.getElem?_eq_some_iff.1 hL.1).1
  have HL := Lib.hid hL
  have HP := Lib.hid (hpc w (Chg.refl _ _))
  have HPC := Lib.hid hpc
  have HPL := Lib.hid hpl
  have HV0 := Lib.hid hv0
  have HN := Lib.hid hn
  rw [← hn] at hpn ⊢
  clear hL hpc hpl hv0 hn
  have g0 : ∀ w', Below w.heap.size w w' → w'.heap[g]? = some (.cells #[.int .i64 nodes, .int .i64 most, .int .i64 next, v] 79 (0, 0)) := fun w' h => (h.block g hgw).trans HL.out.1
  have HG0 := Lib.hid g0
  clear g0
  go_enter Try.func16, Try.ntmps16
  go_upto_block 0 with (fail)
  go_cut [13] (fun _ wx => (∀ p ∈ ps, goodP nodes p) ∧ Below w.heap.size w wx)
  case first =>
    go_wp2
    go_loopw [13] (fun i' wr => ∃ i : Nat, i ≤ n ∧ i' = .int .i64 (i : Int) ∧ (∀ t (h : t < ps.length), t < i → goodP nodes ps[t]) ∧ Below w.heap.size w wr) (fun i' _ => n - (intOf i').toNat)
    case atStart => exact ⟨0, Nat.zero_le _, rfl, fun t h h2 => by omega, Below.refl _ _⟩
    case round =>
      obtain ⟨i, hi, rfl, hgood, hbr⟩ := hrel
      have HGD := Lib.hid hgood
      have HB := Lib.hid hbr
      clear hgood hbr
      by_cases hlt : i < n
      · have hips : i < ps.length := by rw [← HN.out]; exact hlt
        obtain ⟨b, o, pv, rfl, hbl, q0, q1, q2, q3⟩ := HP.out i hips
        obtain ⟨P, hP⟩ : ∃ P, P = ps[i]'hips := ⟨_, rfl⟩
        rw [← hP] at q0 q1 q3
        obtain ⟨pa, pb, pl⟩ := P
        obtain ⟨A1, c1, rfl, _, _, _, _⟩ := q3
        have r0 := (HB.out.cell (p := ⟨b, o + i * 3, none⟩) hbl).trans q0
        have r1 := (HB.out.cell (p := ⟨b, o + i * 3 + 1, none⟩) hbl).trans q1
        have r2 := (HB.out.cell (p := ⟨b, o + i * 3 + 2, none⟩) hbl).trans q2
        have hgr := HG0.out wr HB.out
        have hgwr : g < wr.heap.size := (Array.getElem?_eq_some_iff.1 hgr).1
        have n0 : wr.cell? ⟨g, 0, none⟩ = some (.int .i64 nodes) := by rw [cell_of_row wr g _ _ _ (0, 0) hgr]; rfl
        have hlti : (i : Int) < (n : Int) := by omega
        have i0 : (0 : Int) ≤ (i : Int) := by omega
        have HPi := Lib.hid hP
        clear q0 q1 q2 hP hgr
        by_cases hg : goodP nodes ⟨pa, pb, pl⟩
        · obtain ⟨h1, h2, h3, h4⟩ := hg
          simp only at h1 h2 h3 h4
          have d1 : decide (pa < 0) = false := decide_eq_false (by omega)
          have d2 : decide (nodes ≤ pa) = false := decide_eq_false (by omega)
          have d3 : decide (pb < 0) = false := decide_eq_false (by omega)
          have d4 : decide (nodes ≤ pb) = false := decide_eq_false (by omega)
          have HGG := Lib.hid (show goodP nodes ⟨pa, pb, pl⟩ from ⟨h1, h2, h3, h4⟩)
          clear h1 h2 h3 h4
          go_wp2
          go_quiet (fail)
          have HB2 := Lib.hid (Below.drewN' (HB.out.alloc HB.out.size (.cells #[.int .i64 pa, .int .i64 pb, .slice A1 pl.length c1] 36)) nq)
          generalize (wr.alloc (.cells #[.int .i64 pa, .int .i64 pb, .slice A1 pl.length c1] 36)).drewN nq = w12 at HB2 ⊢
          clear r0 r1 r2 n0 d1 d2 d3 d4
          go_wp2
          go_roundw
          case rel =>
            refine ⟨i + 1, by omega, by go_num, fun t ht h => ?_, HB2.out⟩
            rcases Nat.lt_or_ge t i with h' | h'
            · exact HGD.out t ht h'
            · obtain rfl : t = i := by omega
              rw [← HPi.out]; exact HGG.out
          case measure => simp [intOf]; omega
        · have HBAD := Lib.hid hg
          clear hg
          by_cases h1 : pa < 0
          · have d1 : decide (pa < 0) = true := decide_eq_true h1
            clear h1
            go_wp2
            go_quiet (fail)
            have HB2 := Lib.hid (Below.drewN' (HB.out.alloc HB.out.size (.cells #[.int .i64 pa, .int .i64 pb, .slice A1 pl.length c1] 36)) nq)
            generalize (wr.alloc (.cells #[.int .i64 pa, .int .i64 pb, .slice A1 pl.length c1] 36)).drewN nq = w12 at HB2 ⊢
            clear r0 r1 r2 n0
            go_wp2
            go_ret2
            unfold SendIs
            rw [if_neg (fun h => HBAD.out (h _ (by rw [HPi.out]; exact List.getElem_mem _)))]
            exact ⟨rfl, HB2.out⟩
          · by_cases h2 : nodes ≤ pa
            · have d1 : decide (pa < 0) = false := decide_eq_false h1
              have d2 : decide (nodes ≤ pa) = true := decide_eq_true h2
              clear h1 h2
              go_wp2
              go_quiet (fail)
              have HB2 := Lib.hid (Below.drewN' (HB.out.alloc HB.out.size (.cells #[.int .i64 pa, .int .i64 pb, .slice A1 pl.length c1] 36)) nq)
              generalize (wr.alloc (.cells #[.int .i64 pa, .int .i64 pb, .slice A1 pl.length c1] 36)).drewN nq = w12 at HB2 ⊢
              clear r0 r1 r2 n0
              go_wp2
              go_ret2
              unfold SendIs
              rw [if_neg (fun h => HBAD.out (h _ (by rw [HPi.out]; exact List.getElem_mem _)))]
              exact ⟨rfl, HB2.out⟩
            · by_cases h3 : pb < 0
              · have d1 : decide (pa < 0) = false := decide_eq_false h1
                have d2 : decide (nodes ≤ pa) = false := decide_eq_false h2
                have d3 : decide (pb < 0) = true := decide_eq_true h3
                clear h1 h2 h3
                go_wp2
                go_quiet (fail)
                have HB2 := Lib.hid (Below.drewN' (HB.out.alloc HB.out.size (.cells #[.int .i64 pa, .int .i64 pb, .slice A1 pl.length c1] 36)) nq)
                generalize (wr.alloc (.cells #[.int .i64 pa, .int .i64 pb, .slice A1 pl.length c1] 36)).drewN nq = w12 at HB2 ⊢
                clear r0 r1 r2 n0
                go_wp2
                go_ret2
                unfold SendIs
                rw [if_neg (fun h => HBAD.out (h _ (by rw [HPi.out]; exact List.getElem_mem _)))]
                exact ⟨rfl, HB2.out⟩
              · have h4 : nodes ≤ pb := Int.not_lt.1 fun h => HBAD.out ⟨by show 0 ≤ pa; omega, by show pa < nodes; omega, by show 0 ≤ pb; omega, h⟩
                have d1 : decide (pa < 0) = false := decide_eq_false h1
                have d2 : decide (nodes ≤ pa) = false := decide_eq_false h2
                have d3 : decide (pb < 0) = false := decide_eq_false h3
                have d4 : decide (nodes ≤ pb) = true := decide_eq_true h4
                clear h1 h2 h3 h4
                go_wp2
                go_quiet (fail)
                have HB2 := Lib.hid (Below.drewN' (HB.out.alloc HB.out.size (.cells #[.int .i64 pa, .int .i64 pb, .slice A1 pl.length c1] 36)) nq)
                generalize (wr.alloc (.cells #[.int .i64 pa, .int .i64 pb, .slice A1 pl.length c1] 36)).drewN nq = w12 at HB2 ⊢
                clear r0 r1 r2 n0
                go_wp2
                go_ret2
                unfold SendIs
                rw [if_neg (fun h => HBAD.out (h _ (by rw [HPi.out]; exact List.getElem_mem _)))]
                exact ⟨rfl, HB2.out⟩
      · obtain rfl : i = n := by omega
        go_wp2
        go_meet
        refine ⟨fun p hp => ?_, HB.out⟩
        obtain ⟨t, ht, rfl⟩ := List.mem_iff_getElem.1 hp
        exact HGD.out t ht (by rw [HN.out]; exact ht)
  case rest =>
    obtain ⟨hgood, hbw⟩ := hcut
    have HGD := Lib.hid hgood
    have HB := Lib.hid hbw
    have hgr := HG0.out wc hbw
    have hgwc : g < wc.heap.size := (Array.getElem?_eq_some_iff.1 hgr).1
    have n1 : wc.cell? ⟨g, 1, none⟩ = some (.int .i64 most) := by rw [cell_of_row wc g _ _ _ (0, 0) hgr]; rfl
    have n2 : wc.cell? ⟨g, 2, none⟩ = some (.int .i64 next) := by rw [cell_of_row wc g _ _ _ (0, 0) hgr]; rfl
    have n3 : wc.cell? ⟨g, 3, none⟩ = some (.slice A0 fs.length c0) := by rw [cell_of_row wc g _ _ _ (0, 0) hgr, ← HV0.out]; rfl
    clear hgood hbw hgr
    by_cases hfull : most - (fs.length : Int) < (n : Int)
    · go_wp2
      go_quiet (fail)
      have HB2 := Lib.hid (Below.drewN' HB.out nq)
      generalize wc.drewN nq = w12 at HB2 ⊢
      have HFU := Lib.hid hfull
      clear n1 n2 n3 hfull
      go_wp2
      go_ret2
      unfold SendIs
      rw [if_pos HGD.out, if_pos (by rw [← HN.out]; exact HFU.out)]
      exact ⟨rfl, HB2.out⟩
    · have hfd : decide (most - (fs.length : Int) < (n : Int)) = false := decide_eq_false hfull
      have HFU := Lib.hid (Int.not_lt.1 hfull)
      clear hfull
      go_wp2
      go_quiet (fail)
      have HB2 := Lib.hid (Below.drewN' HB.out nq)
      have m2 : (wc.drewN nq).cell? ⟨g, 2, none⟩ = some (.int .i64 next) := n2
      generalize wc.drewN nq = w12 at HB2 m2 ⊢
      clear n1 n2 n3 hfd
      go_wp2
      go_loopw [63] (fun i' wr => ∃ (i : Nat) (v' : Value) (gs : List FlightR), i ≤ n ∧ i' = .int .i64 (i : Int) ∧ LinkAt wr base g nodes most (next + (i : Int)) v' (fs ++ gs) ∧ News next (ps.take i) gs ∧ (v'.ownBlock = v.ownBlock ∨ ∃ k, v'.ownBlock = some k ∧ w.heap.size ≤ k) ∧ Chg (fun k => k = g ∨ v.ownBlock = some k) w wr) (fun i' _ => n - (intOf i').toNat)
      case atStart =>
        refine ⟨0, v, [], Nat.zero_le _, rfl, ?_, ⟨by simp, fun i h => by simp at h⟩, .inl rfl, Chg.ofBelow HB2.out⟩
        have := HL.out.kept HB2.out
        simpa using this
      case round =>
        obtain ⟨i, v', gs, hi, rfl, hL', hnw, hat, hch⟩ := hrel
        have HL' := Lib.hid hL'
        have HNW := Lib.hid hnw
        have HAT := Lib.hid hat
        have HCH := Lib.hid hch
        clear hL' hnw hat hch m2
        by_cases hlt : i < n
        · have hips : i < ps.length := by rw [← HN.out]; exact hlt
          obtain ⟨b, o, pv, rfl, hbl, q0, q1, q2, q3⟩ := HPC.out wr HCH.out i hips
          obtain ⟨P, hP⟩ : ∃ P, P = ps[i]'hips := ⟨_, rfl⟩
          have hpll := HPL.out _ (List.getElem_mem hips)
          rw [← hP] at q0 q1 q3 hpll
          obtain ⟨pa, pb, pl⟩ := P
          obtain ⟨A1, c1, rfl, s0, _, _, _⟩ := q3
          have hlti : (i : Int) < (n : Int) := by omega
          have i0 : (0 : Int) ≤ (i : Int) := by omega
          have HPi := Lib.hid hP
          have hal : Below wr.heap.size wr (wr.alloc (.cells #[.int .i64 pa, .int .i64 pb, .slice A1 pl.length c1] 36)) := (Below.refl _ _).alloc (Nat.le_refl _) _
          have hgl := HNW.out.1
          rw [List.length_take, Nat.min_eq_left (by omega)] at hgl
          have hsz := HCH.out.size
          have hfu := HFU.out
          have HBG := Lib.hid (begin_any base g nodes most (next + (i : Int)) v' (fs ++ gs) 0 pa pb A1 c1 pl false _ (HL'.out.kept hal) (s0.below hal) hpll (by have := hal.size; omega) (by rw [List.length_append]; omega) (by omega) (by omega))
          unfold flightV at HBG
          have HALW := Lib.hid hal
          clear hP hal hgl s0 hsz hfu hpll
          go_wp2_with (fail)
          refine HBG.out.mono ?_
          rintro e w3 ⟨v3, nv, rfl, hL3, hat3, hch3⟩
          have HL3 := Lib.hid hL3
          have HC3 := Lib.hid ((HCH.out.below HALW.out).trans' hch3 (fun k hk h => by
            rcases h with h | h
            · exact .inl h
            · rcases HAT.out with h' | ⟨j, h', h2⟩
              · right; rw [← h']; exact h
              · rw [h'] at h; simp at h; omega))
          have HAT3 := Lib.hid (show v3.ownBlock = v.ownBlock ∨ ∃ k, v3.ownBlock = some k ∧ w.heap.size ≤ k by
            rcases hat3 with h | ⟨j, h, h2⟩
            · rw [h]; exact HAT.out
            · right; exact ⟨j, h, by have := HCH.out.size; have := HALW.out.size; omega⟩)
          clear hL3 hat3 hch3 q0 q1 q2
          go_wp2
          go_roundw
          case rel =>
            refine ⟨i + 1, v3, gs ++ [⟨next + (i : Int), pa, pb, pl, false, nv⟩], by omega, by go_num, ?_, ?_, HAT3.out, HC3.out⟩
            · have := HL3.out
              rw [List.append_assoc] at this
              rw [show next + ((i + 1 : Nat) : Int) = next + (i : Int) + 1 by omega]
              exact this
            · refine HNW.out.snoc hips ?_
              rw [← HPi.out]
              exact ⟨rfl, rfl, rfl, rfl, rfl⟩
          case measure => simp [intOf]; omega
        · obtain rfl : i = n := by omega
          go_wp2
          go_ret2
          unfold SendIs
          rw [if_pos HGD.out, if_neg (by rw [← HN.out]; exact Int.not_lt.2 HFU.out), ← HN.out]
          refine ⟨v', gs, rfl, HL'.out, ?_, HAT.out, HCH.out⟩
          have := HNW.out
          rwa [HN.out, List.take_length] at this
end Go.Proofs.Ytejlpdcoaejciaa
