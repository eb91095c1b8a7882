/- XformExcludes_card, part 40. -/
import Derived.Test.YtloccjkcmlkifaaDoorQEx39
import Derived.Test.YtloccjkcmlkifaaDoorQEx27
import Derived.Test.YtloccjkcmlkifaaDoorQEx25
import Derived.Test.YtloccjkcmlkifaaDoorQEx30
import Derived.Test.YtloccjkcmlkifaaDoorQEx31

section
/- span.Back, of ranges in order. -/
namespace Go.Proofs.YtloccjkcmlkifaaDoor
open Go.RowKit Go.Proofs.YtloccjkcmlkifaaDoor.PAll Go.Proofs.YtloccjkcmlkifaaDoorW.PrintWords

theorem lastLe.mono {acc : List S94} {p q : Int} (h : lastLe acc p) (hq : p ≤ q) : lastLe acc q := fun h0 => Int.le_trans (h h0) hq
theorem add_tot (acc : List S94) (lo hi : Int) (hl : acc.length ≤ 4398046511104) : ∃ r, span_add.f acc lo hi = some r ∧ acc.length ≤ r.length ∧ r.length ≤ acc.length + 1 ∧ (lo < hi → 0 < r.length) := by
 unfold span_add.f
 by_cases h0 : lo ≥ hi
 · rw [if_pos h0]; exact ⟨_, rfl, Nat.le_refl _, by omega, fun h => by omega⟩
 rw [if_neg h0]
 have hl' : acc.length < 8796093022208 := by omega
 by_cases h : 0 < acc.length
 · have w : wrap64 ((acc.length : Int) - 1) = ((acc.length - 1 : Nat) : Int) := by rw [wrap_id (by omega) (by omega)]; omega
   rw [if_pos (show (acc.length : Int) > 0 by omega), w, if_pos (by omega), if_pos (by omega)]
   by_cases c : (rd_T94 acc ((acc.length - 1 : Nat) : Int)).f1 ≥ lo
   · rw [if_pos c]; exact ⟨_, rfl, by simp, by simp, fun _ => by simpa using h⟩
   · rw [if_neg c, if_pos hl']; exact ⟨_, rfl, by simp, by simp, fun _ => by simp⟩
 · rw [if_neg (show ¬ (acc.length : Int) > 0 by omega), if_pos hl']; exact ⟨_, rfl, by simp, by simp, fun _ => by simp⟩
theorem add_jn (acc : List S94) (lo hi : Int) (hq : lastLe acc lo) (h2 : lo < hi) (hl : acc.length ≤ 4398046511104) : span_add.f acc lo hi = some (jn acc ⟨lo, hi⟩) := by
 unfold span_add.f jn
 have hl' : acc.length < 8796093022208 := by omega
 rw [if_neg (show ¬ lo ≥ hi by omega)]
 by_cases h : 0 < acc.length
 · have w : wrap64 ((acc.length : Int) - 1) = ((acc.length - 1 : Nat) : Int) := by rw [wrap_id (by omega) (by omega)]; omega
   have e : rd_T94 acc ((acc.length - 1 : Nat) : Int) = acc.getD (acc.length - 1) z94 := by unfold rd_T94; rw [Int.toNat_natCast]
   have hle := hq h
   rw [if_pos (show (acc.length : Int) > 0 by omega), w, if_pos (by omega), if_pos (by omega), e]
   by_cases c : (acc.getD (acc.length - 1) z94).f1 = lo
   · have m : mx (acc.getD (acc.length - 1) z94).f1 hi = hi := by unfold mx; split <;> omega
     rw [if_pos (show (acc.getD (acc.length - 1) z94).f1 ≥ lo by omega), m, Int.toNat_natCast, if_pos ⟨h, c⟩]
   · rw [if_neg (show ¬ (acc.getD (acc.length - 1) z94).f1 ≥ lo by omega), if_pos hl', if_neg (fun q => c q.2)]
 · rw [if_neg (show ¬ (acc.length : Int) > 0 by omega), if_pos hl', if_neg (fun q => h q.1)]
theorem lastLe_jn (acc : List S94) (r : S94) : lastLe (jn acc r) r.f1 := by
 unfold jn
 by_cases c : 0 < acc.length ∧ (acc.getD (acc.length - 1) z94).f1 = r.f0
 · rw [if_pos c]
   intro _
   rw [List.length_set, List.getD_eq_getElem?_getD, List.getElem?_set_self (by omega)]
   exact Int.le_refl _
 · rw [if_neg c]; exact lastLe_snoc _ _ _ (Int.le_refl _)
def mv (p n : Int) (r : S94) : S94 := if r.f1 ≤ p then r else ⟨r.f0 - n, r.f1 - n⟩
def hits (p n : Int) (l : List S94) : Bool := l.any fun r => decide (p < r.f1 ∧ r.f0 < p + n)
def bkS (p n : Int) (l : List S94) : List S94 := (l.map (mv p n)).foldl jn []
def un (p n x : Int) : Int := if x ≤ p then x else x - n
section
variable (L : List S94) (p n : Int) (hp : 0 ≤ p ∧ p ≤ 1048576) (hn : 1 ≤ n ∧ n ≤ 1048576) (hL : L.length ≤ 1048576)
include hp hn hL
theorem back_loop : ∀ (d k i : Nat) (acc : List S94) (x : Int), L.length = i + d → -1 ≤ x → Nrm x (L.drop i) → hits p n (L.drop i) = false → lastLe acc (un p n x) → acc.length ≤ i → d + 1 ≤ k →
 span_Back.l0 k p n acc [] L (L.length : Int) (i : Int) = some (((L.drop i).map (mv p n)).foldl jn acc, [], 0) := by
 intro d
 induction d with
 | zero =>
  intro k i acc x h1 hx hN hh hla hal hk
  obtain ⟨k, rfl⟩ : ∃ m, k = m + 1 := ⟨k - 1, by omega⟩
  rw [span_Back.l0, if_neg (by omega), List.drop_eq_nil_of_le (by omega)]
  rfl
 | succ d ih =>
  intro k i acc x h1 hx hN hh hla hal hk
  obtain ⟨k, rfl⟩ : ∃ m, k = m + 1 := ⟨k - 1, by omega⟩
  have hi : i < L.length := by omega
  have w : wrap64 ((i : Int) + 1) = ((i + 1 : Nat) : Int) := by clear ih hk hN hla; rw [wrap_id (by omega) (by omega)]; omega
  obtain ⟨r, hr⟩ : ∃ r, r = L.getD i z94 := ⟨_, rfl⟩
  have hd : L.drop i = r :: L.drop (i + 1) := by
   rw [hr, List.drop_eq_getElem_cons hi, List.getD_eq_getElem?_getD, List.getElem?_eq_getElem hi]; rfl
  have e : rd_T94 L (i : Int) = r := by unfold rd_T94; rw [Int.toNat_natCast, hr]
  rw [hd] at hN hh ⊢
  obtain ⟨b1, b2, b3, b4⟩ := hN
  have hh1 : decide (p < r.f1 ∧ r.f0 < p + n) = false ∧ hits p n (L.drop (i + 1)) = false := by
   unfold hits at hh ⊢
   simpa only [List.any_cons, Bool.or_eq_false_iff] using hh
  obtain ⟨hh1, hh2⟩ := hh1
  have hh1 := of_decide_eq_false hh1
  have w0 : wrap64 (p + n) = p + n := wrap_id (by omega) (by omega)
  have q1 : (i : Int) < (L.length : Int) := by omega
  have q2 : (0 : Int) ≤ (i : Int) := by omega
  have ql : acc.length ≤ 4398046511104 := by omega
  have hjl := jn_len acc (mv p n r)
  have g1 : L.length = (i + 1) + d := by omega
  have g2 : d + 1 ≤ k := by omega
  have g3 : (jn acc (mv p n r)).length ≤ i + 1 := by omega
  have g4 : -1 ≤ r.f1 := by omega
  rw [span_Back.l0, if_pos q1, if_pos q2, if_pos q1, e, w0, w]
  by_cases c : r.f1 ≤ p
  · have m1 : mn r.f1 p = r.f1 := by unfold mn; split <;> omega
    have m2 : mx r.f0 p = p := by unfold mx; split <;> omega
    have m3 : mn r.f1 (p + n) = r.f1 := by unfold mn; split <;> omega
    have m4 : mx r.f0 (p + n) = p + n := by unfold mx; split <;> omega
    have v1 : wrap64 (p - p) = 0 := by rw [wrap_id (by omega) (by omega)]; omega
    have v2 : wrap64 (r.f1 - p) = r.f1 - p := wrap_id (by omega) (by omega)
    have v3 : wrap64 (p + n - n) = p := by rw [wrap_id (by omega) (by omega)]; omega
    have v4 : wrap64 (r.f1 - n) = r.f1 - n := wrap_id (by omega) (by omega)
    have hm : mv p n r = r := if_pos c
    have hq : lastLe acc r.f0 := hla.mono (by unfold un; split <;> omega)
    rw [hm] at g3
    rw [m1, m2, m3, m4, v1, v2, v3, v4, add_jn acc r.f0 r.f1 hq b2 ql]
    simp only [Option.bind_some]
    rw [add_no [] _ _ (by omega)]
    simp only [Option.bind_some]
    rw [add_no _ _ _ (by omega)]
    simp only [Option.bind_some]
    rw [ih k (i + 1) (jn acc ⟨r.f0, r.f1⟩) r.f1 g1 g4 b4 hh2 (by
     have : un p n r.f1 = r.f1 := if_pos c
     rw [this]; exact lastLe_jn acc r) g3 g2]
    rw [List.map_cons, List.foldl_cons, hm]
  · have c2 : p + n ≤ r.f0 := by omega
    have m1 : mn r.f1 p = p := by unfold mn; split <;> omega
    have m2 : mx r.f0 p = r.f0 := by unfold mx; split <;> omega
    have m3 : mn r.f1 (p + n) = p + n := by unfold mn; split <;> omega
    have m4 : mx r.f0 (p + n) = r.f0 := by unfold mx; split <;> omega
    have v1 : wrap64 (r.f0 - p) = r.f0 - p := wrap_id (by omega) (by omega)
    have v2 : wrap64 (p + n - p) = n := by rw [wrap_id (by omega) (by omega)]; omega
    have v3 : wrap64 (r.f0 - n) = r.f0 - n := wrap_id (by omega) (by omega)
    have v4 : wrap64 (r.f1 - n) = r.f1 - n := wrap_id (by omega) (by omega)
    have hm : mv p n r = ⟨r.f0 - n, r.f1 - n⟩ := if_neg c
    have hq : lastLe acc (r.f0 - n) := hla.mono (by unfold un; split <;> omega)
    rw [hm] at g3
    rw [m1, m2, m3, m4, v1, v2, v3, v4, add_no acc _ _ (by omega)]
    simp only [Option.bind_some]
    rw [add_no [] _ _ (by omega)]
    simp only [Option.bind_some]
    rw [add_jn acc (r.f0 - n) (r.f1 - n) hq (by omega) ql]
    simp only [Option.bind_some]
    rw [ih k (i + 1) (jn acc ⟨r.f0 - n, r.f1 - n⟩) r.f1 g1 g4 b4 hh2 (by
     have : un p n r.f1 = r.f1 - n := if_neg c
     rw [this]; exact lastLe_jn acc ⟨r.f0 - n, r.f1 - n⟩) g3 g2]
    rw [List.map_cons, List.foldl_cons, hm]
theorem back_hit : ∀ (d k i : Nat) (acc inn : List S94) (x : Int), L.length = i + d → -1 ≤ x → Nrm x (L.drop i) → (0 < inn.length ∨ hits p n (L.drop i) = true) → acc.length ≤ 2 * i → inn.length ≤ i → d + 1 ≤ k →
 ∃ o j, span_Back.l0 k p n acc inn L (L.length : Int) (i : Int) = some (o, j, 0) ∧ 0 < j.length := by
 intro d
 induction d with
 | zero =>
  intro k i acc inn x h1 hx hN hh hal hil hk
  obtain ⟨k, rfl⟩ : ∃ m, k = m + 1 := ⟨k - 1, by omega⟩
  rw [span_Back.l0, if_neg (by omega)]
  refine ⟨_, _, rfl, ?_⟩
  rcases hh with h | h
  · exact h
  · rw [List.drop_eq_nil_of_le (by omega)] at h; exact absurd h (by simp [hits])
 | succ d ih =>
  intro k i acc inn x h1 hx hN hh hal hil hk
  obtain ⟨k, rfl⟩ : ∃ m, k = m + 1 := ⟨k - 1, by omega⟩
  have hi : i < L.length := by omega
  have w : wrap64 ((i : Int) + 1) = ((i + 1 : Nat) : Int) := by clear ih hk hN; rw [wrap_id (by omega) (by omega)]; omega
  obtain ⟨r, hr⟩ : ∃ r, r = L.getD i z94 := ⟨_, rfl⟩
  have hd : L.drop i = r :: L.drop (i + 1) := by
   rw [hr, List.drop_eq_getElem_cons hi, List.getD_eq_getElem?_getD, List.getElem?_eq_getElem hi]; rfl
  have e : rd_T94 L (i : Int) = r := by unfold rd_T94; rw [Int.toNat_natCast, hr]
  rw [hd] at hN hh
  obtain ⟨b1, b2, b3, b4⟩ := hN
  have w0 : wrap64 (p + n) = p + n := wrap_id (by omega) (by omega)
  have q1 : (i : Int) < (L.length : Int) := by omega
  have q2 : (0 : Int) ≤ (i : Int) := by omega
  have bx : p ≤ mx r.f0 p ∧ mx r.f0 p ≤ 1048576 ∧ (mx r.f0 p = r.f0 ∨ mx r.f0 p = p) := by unfold mx; split <;> omega
  have bn : 0 ≤ mn r.f1 (p + n) ∧ mn r.f1 (p + n) ≤ 2097152 ∧ (mn r.f1 (p + n) = r.f1 ∨ mn r.f1 (p + n) = p + n) := by unfold mn; split <;> omega
  have v1 : wrap64 (mx r.f0 p - p) = mx r.f0 p - p := wrap_id (by omega) (by omega)
  have v2 : wrap64 (mn r.f1 (p + n) - p) = mn r.f1 (p + n) - p := wrap_id (by omega) (by omega)
  obtain ⟨t1, a1, l1, l2, _⟩ := add_tot acc r.f0 (mn r.f1 p) (by omega)
  obtain ⟨t2, a2, l3, l4, l5⟩ := add_tot inn (mx r.f0 p - p) (mn r.f1 (p + n) - p) (by omega)
  obtain ⟨t3, a3, l6, l7, _⟩ := add_tot t1 (wrap64 (mx r.f0 (p + n) - n)) (wrap64 (r.f1 - n)) (by omega)
  rw [span_Back.l0, if_pos q1, if_pos q2, if_pos q1, e, w0, v1, v2, a1]
  simp only [Option.bind_some]
  rw [a2]
  simp only [Option.bind_some]
  rw [a3]
  simp only [Option.bind_some]
  rw [w]
  have g0 : 0 < t2.length ∨ hits p n (L.drop (i + 1)) = true := by
   rcases hh with h | h
   · exact .inl (by omega)
   · unfold hits at h ⊢
     simp only [List.any_cons, Bool.or_eq_true] at h
     rcases h with h | h
     · have h' := of_decide_eq_true h
       exact .inl (l5 (by
        have m1 : mx r.f0 p < mn r.f1 (p + n) := by unfold mx mn; split <;> split <;> omega
        omega))
     · exact .inr h
  have g1 : L.length = (i + 1) + d := by omega
  have g2 : -1 ≤ r.f1 := by omega
  have g3 : t3.length ≤ 2 * (i + 1) := by omega
  have g4 : t2.length ≤ i + 1 := by omega
  have g5 : d + 1 ≤ k := by omega
  exact ih k (i + 1) t3 t2 r.f1 g1 g2 b4 g0 g3 g4 g5
end
theorem back_is (l : List S94) (p n : Int) (hl : (rngE l).2 = 0) (hp : 0 ≤ p ∧ p ≤ 1048576) (hn : 1 ≤ n ∧ n ≤ 1048576) (hpn : p + n ≤ 1048576) :
 ∃ k r, span_Back.f k l p n = some r ∧ r.2.2 = 0 ∧ (hits p n l = true → 0 < r.2.1.length) ∧ (hits p n l = false → r.2.1 = [] ∧ r.1 = bkS p n l) := by
 obtain ⟨hlen, hN⟩ := rng_ok hl
 obtain ⟨K, hK⟩ := span_chk l
 dsimp only at hK
 obtain ⟨k, hk⟩ : ∃ k, k = K + l.length + 8 := ⟨_, rfl⟩
 have ho : ∀ x : Int, 0 ≤ x ∧ x ≤ 1048576 → span_outside.f x = some false := fun x hx => by
  unfold span_outside.f
  rw [if_neg (by omega), decide_eq_false (by omega)]
 have hw : wrap64 (p + n) = p + n := wrap_id (by omega) (by omega)
 have hf : span_Back.f (k + 1) l p n = span_Back.l0 k p n [] [] l (l.length : Int) ((0 : Nat) : Int) := by
  unfold span_Back.f
  rw [hK (k + 1) (by omega)]
  simp only [Option.bind_some]
  rw [if_pos hl, ho p hp]
  simp only [Option.bind_some]
  rw [if_neg (by simp), ho n ⟨by omega, hn.2⟩]
  simp only [Option.bind_some]
  rw [if_neg (by simp), hw, decide_eq_false (show ¬ p + n > 1048576 by omega), span_Back.j0, if_neg (by simp)]
  rfl
 cases hh : hits p n l with
 | false =>
  have := back_loop l p n hp hn (by omega) l.length k 0 [] (-1) (by omega) (by omega) (by simpa using hN) (by simpa using hh) (fun h => absurd h (by simp)) (by simp) (by omega)
  exact ⟨k + 1, _, hf.trans this, rfl, fun h => by simp at h, fun _ => ⟨rfl, by rw [List.drop_zero]; rfl⟩⟩
 | true =>
  obtain ⟨o, j, h1, h2⟩ := back_hit l p n hp hn (by omega) l.length k 0 [] [] (-1) (by omega) (by omega) (by simpa using hN) (.inr (by simpa using hh)) (by simp) (by simp) (by omega)
  exact ⟨k + 1, _, hf.trans h1, rfl, fun _ => h2, fun h => by simp at h⟩
def excE (a b : S41) : S41 × Int :=
 if clashB a b = true then (z41, 50) else if a.f0.f1 = 4 then (if aimB a b = true then (z41, 23) else (a, 0)) else if b.f0.f1 ≠ 1 then (a, 0)
 else if a.f0.f1 = 1 then (if a.f1 ≤ b.f1 then (a, 0) else if b.f1 + wid b ≤ a.f1 then moveE a (a.f1 - wid b) else (z41, 23))
 else if hits b.f1 (wid b) a.f3 = true then (z41, 23) else (⟨a.f0, a.f1, a.f2, bkS b.f1 (wid b) a.f3, a.f4, a.f5⟩, 0)
theorem exc_r {a b : S41} (ga : Good a) (gb : Good b) : ∃ r, (a.f0.f1 ≠ 1 → a.f0.f1 ≠ 4 → b.f0.f1 = 1 → ∃ k, span_Back.f k a.f3 b.f1 (wid b) = some r) ∧ excP a b r = excE a b := by
 by_cases h : a.f0.f1 ≠ 1 ∧ a.f0.f1 ≠ 4 ∧ b.f0.f1 = 1
 · obtain ⟨h1, h4, hb⟩ := h
   have hw := gb.wid1 hb
   have hk := ga.kind
   obtain ⟨k, r, e, r0, ht, hf⟩ := back_is a.f3 b.f1 (wid b) (ga.rng (by omega)) ⟨hw.2.2.1, by omega⟩ ⟨hw.1, by omega⟩ hw.2.2.2
   refine ⟨r, fun _ _ _ => ⟨k, e⟩, ?_⟩
   unfold excP excE
   by_cases hc : clashB a b = true
   · rw [if_pos hc, if_pos hc]
   rw [if_neg hc, if_neg hc, if_neg h4, if_neg h4, if_neg (show ¬ b.f0.f1 ≠ 1 from fun q => q hb), if_neg (show ¬ b.f0.f1 ≠ 1 from fun q => q hb), if_neg h1, if_neg h1]
   cases hh : hits b.f1 (wid b) a.f3 with
   | true =>
    rw [if_pos ⟨r0, ht hh⟩, if_pos rfl]
    rfl
   | false =>
    obtain ⟨f1, f2⟩ := hf hh
    rw [if_neg (fun q => by rw [f1] at q; exact absurd q.2 (by simp)), r0, f2, if_neg (by simp)]
    rfl
 · refine ⟨([], [], 0), fun h1 h4 hb => absurd ⟨h1, h4, hb⟩ h, ?_⟩
   unfold excP excE
   by_cases hc : clashB a b = true
   · rw [if_pos hc, if_pos hc]
   rw [if_neg hc, if_neg hc]
   by_cases h4 : a.f0.f1 = 4
   · rw [if_pos h4, if_pos h4]
   · rw [if_neg h4, if_neg h4]
     by_cases hb : b.f0.f1 = 1
     · have h1 : a.f0.f1 = 1 := Classical.byContradiction fun q => h ⟨q, h4, hb⟩
       rw [if_neg (show ¬ b.f0.f1 ≠ 1 from fun q => q hb), if_neg (show ¬ b.f0.f1 ≠ 1 from fun q => q hb), if_pos h1, if_pos h1]
     · rw [if_pos hb, if_pos hb]
theorem excE_prog (a b : S41) (va vb : Value) (w : World) (hG : GW w) (ha : OpC w va a) (hb : OpC w vb b) (ga : Good a) (gb : Good b) :
 Calls Tryd.prog 75 #[.agg (opA a va), .agg (opA b vb)] w (RetOp w (excE a b)) := by
 obtain ⟨r, h, e⟩ := exc_r ga gb
 rw [← e]
 exact exclude_any a b va vb r w hG ha hb ga.fit.len ga.fit.at_ gb.fit.at_ ga.fit.wid gb.fit.wid h
end Go.Proofs.YtloccjkcmlkifaaDoor
end

section
/- xform.transpose, told of whole operations. -/
namespace Go.Proofs.YtloccjkcmlkifaaDoor
open Go.RowKit Go.Proofs.YtloccjkcmlkifaaDoor.PAll Go.Proofs.YtloccjkcmlkifaaDoorW.PrintWords Go.Proofs.YtloccjkcmlkifaaDoorW.PrintLast

def sameAim (a b : S41) : Bool := a.f4.f0 == b.f4.f0 && a.f4.f1 == b.f4.f1
def trClash (a b : S41) : Bool := a.f0.f1 == 4 && ((b.f0.f1 == 4 && sameAim a b && (a.f5 != b.f5)) || aimB a b)
def trP (a b : S41) (rb : List S94 × List S94 × Int) (ra : List S94 × Int) : S41 × S41 × Int :=
 if (excP b a rb).2 ≠ 0 then (z41, z41, (excP b a rb).2)
 else if trClash a b = true then (z41, z41, 50)
 else if b.f0.f1 = 1 ∧ a.f0.f1 = 1 ∧ b.f1 ≤ a.f1 then (if (moveE a (a.f1 + wid b)).2 ≠ 0 then (z41, z41, (moveE a (a.f1 + wid b)).2) else ((excP b a rb).1, (moveE a (a.f1 + wid b)).1, 0))
 else if b.f0.f1 = 1 ∧ (a.f0.f1 = 2 ∨ a.f0.f1 = 3) then (if (incP a b false ra).2 ≠ 0 then (z41, z41, (incP a b false ra).2) else ((excP b a rb).1, (incP a b false ra).1, 0))
 else ((excP b a rb).1, a, 0)

attribute [local go_sem high] eqA35 idx35_0 idx35_1
set_option maxRecDepth 100000 in
set_option maxHeartbeats 8000000 in
theorem transpose_any (a b : S41) (va vb : Value) (rb : List S94 × List S94 × Int) (ra : List S94 × Int) (w : World) (hG : GW w) (ha : OpC w va a) (hb : OpC w vb b) (fa : Fit a) (fb : Fit b)
 (hrb : b.f0.f1 ≠ 1 → b.f0.f1 ≠ 4 → a.f0.f1 = 1 → ∃ k, span_Back.f k b.f3 a.f1 (wid a) = some rb)
 (hra : a.f0.f1 = 2 ∨ a.f0.f1 = 3 → b.f0.f1 = 1 → ∃ k, span_Through.f k a.f3 b.f1 (wid b) = some ra) :
 Calls Tryd.prog 62 #[.agg (opA a va), .agg (opA b vb)] w (RetOp2 w (trP a b rb ra)) := by
 obtain ⟨A, c, rfl, h1, h2⟩ := ha
 obtain ⟨B, d, rfl, h3, h4⟩ := hb
 have S := Aside0.mk (St.init w (F := fun _ => True) (fun _ _ => trivial))
 have HA := Aside0.mk (opC_mk h1 h2); have HB := Aside0.mk (opC_mk h3 h4)
 have HG := Aside0.mk hG
 have HT := Aside0.mk hrb
 have HU := Aside0.mk hra
 clear h1 h2 h3 h4 hG hrb hra
 unfold trP
 by_cases h0 : (excP b a rb).2 = 0
 case neg =>
  rw [if_pos h0]
  have h0' : ((excP b a rb).2 != 0) = true := bne_iff_ne.mpr h0
  clear h0
  go_enter Tryd.func62, Tryd.ntmps62
  go_wp2_with (first | ((with_reducible refine gate_box rfl ?_); refine ev_box S ?_; clear S; intro _ _ S) | ((with_reducible refine gate_new rfl ?_); refine ev_new S 41 zA ?_; clear S; intro _ _ S) | ((with_reducible refine gate_load rfl ?_); first | refine ev_load S ?_ | refine ev_fld S ?_) | ((with_reducible refine gate_st rfl ?_); refine ev_store S ?_; clear S; intro _ S) | (go_at_call 75; (with_reducible refine (exclude_any b a _ _ rb _ (GW.below HG.out S.out.below) (HB.out.below S.out.below) (HA.out.below S.out.below) fb.len fb.at_ fa.at_ fb.wid fa.wid HT.out).mono ?_); rintro e w7 ⟨v, rfl, hR, hb⟩; obtain ⟨Ao, co, rfl⟩ := hR.slice; replace S := Aside0.mk (S.out.addOp hb hR); clear hb hR))
  exact bodyPost_ret (results_cct rfl _ _ _ _ 41 41 zA zA (0, 0) (0, 0) _ _ rfl (S.out.at_ 1 rfl) Tryd.underlying41 rfl (by kernel_rfl) rfl (S.out.at_ 0 rfl) Tryd.underlying41 rfl (by kernel_rfl)) rfl ⟨.slice none 0 0, .slice none 0 0, rfl, opR_nil _ _, opR_nil _ _, S.out.below⟩
 rw [if_neg (fun h => h h0)]
 have h0' : ((excP b a rb).2 != 0) = false := bne_eq_false_iff_eq.mpr h0
 clear h0
 by_cases hcl : trClash a b = true
 · rw [if_pos hcl]
   have hq : (a.f0.f1 == 4) = true ∧ (((b.f0.f1 == 4) = true ∧ (a.f4.f0 == b.f4.f0 && (a.f4.f1 == b.f4.f1)) = true ∧ (a.f5 != b.f5) = true) ∨ ((b.f0.f1 == 4) = false ∧ (a.f4.f0 == b.f0.f0.f0 && (a.f4.f1 == b.f0.f0.f1)) = true) ∨ ((b.f0.f1 == 4) = true ∧ (a.f4.f0 == b.f4.f0 && (a.f4.f1 == b.f4.f1)) = false ∧ (a.f4.f0 == b.f0.f0.f0 && (a.f4.f1 == b.f0.f0.f1)) = true) ∨ ((b.f0.f1 == 4) = true ∧ (a.f4.f0 == b.f4.f0 && (a.f4.f1 == b.f4.f1)) = true ∧ (a.f5 != b.f5) = false ∧ (a.f4.f0 == b.f0.f0.f0 && (a.f4.f1 == b.f0.f0.f1)) = true)) := by
    unfold trClash sameAim aimB at hcl
    revert hcl
    generalize (a.f0.f1 == 4) = x1, (b.f0.f1 == 4) = x2, (a.f4.f0 == b.f4.f0 && (a.f4.f1 == b.f4.f1)) = x3, (a.f5 != b.f5) = x4, (a.f4.f0 == b.f0.f0.f0 && (a.f4.f1 == b.f0.f0.f1)) = x5
    revert x1 x2 x3 x4 x5
    decide
   clear hcl
   simp only [bne_iff_ne, bne_eq_false_iff_eq] at hq
   obtain ⟨q1, ⟨q2, q3, q4⟩ | ⟨q2, q5⟩ | ⟨q2, q3, q5⟩ | ⟨q2, q3, q4, q5⟩⟩ := hq
   all_goals
    go_enter Tryd.func62, Tryd.ntmps62
    go_wp2_with (first | ((with_reducible refine gate_box rfl ?_); refine ev_box S ?_; clear S; intro _ _ S) | ((with_reducible refine gate_new rfl ?_); refine ev_new S 41 zA ?_; clear S; intro _ _ S) | ((with_reducible refine gate_load rfl ?_); first | refine ev_load S ?_ | refine ev_fld S ?_) | ((with_reducible refine gate_st rfl ?_); refine ev_store S ?_; clear S; intro _ S) | (go_at_call 75; (with_reducible refine (exclude_any b a _ _ rb _ (GW.below HG.out S.out.below) (HB.out.below S.out.below) (HA.out.below S.out.below) fb.len fb.at_ fa.at_ fb.wid fa.wid HT.out).mono ?_); rintro e w7 ⟨v, rfl, hR, hb⟩; obtain ⟨Ao, co, rfl⟩ := hR.slice; replace S := Aside0.mk (S.out.addOp hb hR); clear hb hR))
    exact bodyPost_ret (results_cct rfl _ _ _ _ 41 41 zA zA (0, 0) (0, 0) _ _ rfl (S.out.at_ 1 rfl) Tryd.underlying41 rfl (by kernel_rfl) rfl (S.out.at_ 0 rfl) Tryd.underlying41 rfl (by kernel_rfl)) rfl ⟨.slice none 0 0, .slice none 0 0, rfl, opR_nil _ _, opR_nil _ _, S.out.below⟩
 rw [if_neg hcl]
 have hq : (a.f0.f1 == 4) = false ∨ (a.f0.f1 == 4) = true ∧ (a.f4.f0 == b.f0.f0.f0 && (a.f4.f1 == b.f0.f0.f1)) = false ∧ ((b.f0.f1 == 4) = false ∨ ((b.f0.f1 == 4) = true ∧ (a.f4.f0 == b.f4.f0 && (a.f4.f1 == b.f4.f1)) = false) ∨ ((b.f0.f1 == 4) = true ∧ (a.f4.f0 == b.f4.f0 && (a.f4.f1 == b.f4.f1)) = true ∧ (a.f5 != b.f5) = false)) := by
  unfold trClash sameAim aimB at hcl
  revert hcl
  generalize (a.f0.f1 == 4) = x1, (b.f0.f1 == 4) = x2, (a.f4.f0 == b.f4.f0 && (a.f4.f1 == b.f4.f1)) = x3, (a.f5 != b.f5) = x4, (a.f4.f0 == b.f0.f0.f0 && (a.f4.f1 == b.f0.f0.f1)) = x5
  revert x1 x2 x3 x4 x5
  decide
 clear hcl
 by_cases hq1 : (a.f0.f1 == 4) = true
 · have e4 : a.f0.f1 = 4 := beq_iff_eq.mp hq1
   rw [if_neg (by omega), if_neg (by omega)]
   have g1 : (a.f0.f1 == 1) = false := by simp [e4]
   have g2 : (a.f0.f1 == 2) = false := by simp [e4]
   have g3 : (a.f0.f1 == 3) = false := by simp [e4]
   clear e4
   have hq' := hq.resolve_left (by rw [hq1]; simp)
   clear hq hq1
   simp only [bne_eq_false_iff_eq] at hq'
   obtain ⟨q1, q5, q2 | ⟨q2, q3⟩ | ⟨q2, q3, q4⟩⟩ := hq'
   all_goals
    by_cases gb : (b.f0.f1 == 1) = true
    all_goals
     first | (have gb := (Bool.not_eq_true _).mp gb) | skip
     go_enter Tryd.func62, Tryd.ntmps62
     go_wp2_with (first | ((with_reducible refine gate_box rfl ?_); refine ev_box S ?_; clear S; intro _ _ S) | ((with_reducible refine gate_new rfl ?_); refine ev_new S 41 zA ?_; clear S; intro _ _ S) | ((with_reducible refine gate_load rfl ?_); first | refine ev_load S ?_ | refine ev_fld S ?_) | ((with_reducible refine gate_st rfl ?_); refine ev_store S ?_; clear S; intro _ S) | (go_at_call 75; (with_reducible refine (exclude_any b a _ _ rb _ (GW.below HG.out S.out.below) (HB.out.below S.out.below) (HA.out.below S.out.below) fb.len fb.at_ fa.at_ fb.wid fa.wid HT.out).mono ?_); rintro e w7 ⟨v, rfl, hR, hb⟩; obtain ⟨Ao, co, rfl⟩ := hR.slice; replace S := Aside0.mk (S.out.addOp hb hR); clear hb hR) | (go_at_call 64; (with_reducible refine (clone_any a _ _ (HA.out.below S.out.below) fa.len).mono ?_); rintro e w7 ⟨v, rfl, hR, hb⟩; obtain ⟨Ap, cp, rfl⟩ := hR.slice; replace S := Aside0.mk (S.out.addOp hb hR); clear hb hR))
     (refine rg_start (n := 5) (fun W => St w W _ _) [] S.out (fun _ h => h.drew) ?_; clear S; intro _ S; refine ld_ 0 1 S ?_; refine ld_ 1 0 S ?_; refine re_ (rc_ 2 ?_ AllReadyL.nil); intro K hK; refine ks_ 1 S ?_; intro _ S'; refine hK.out _ _ S' ?_; clear S S' hK K; intro S; refine re_ (rc_ 3 ?_ AllReadyL.nil); intro K hK; refine ks_ 0 S ?_; intro _ S'; refine hK.out _ _ S' ?_; clear S S' hK K; intro S; refine pu_ 4 ?_; refine done_ (by kernel_rfl) ?_)
     go_wp2
     exact bodyPost_ret (results_cct rfl _ _ _ _ 41 41 _ _ (0, 0) (0, 0) _ _ rfl (S.at_ 1 rfl) Tryd.underlying41 rfl (by kernel_rfl) rfl (S.at_ 0 rfl) Tryd.underlying41 rfl (by kernel_rfl)) rfl ⟨_, _, rfl, S.now.1.2, S.now.2, S.below⟩
 have q1 : (a.f0.f1 == 4) = false := by simpa using hq1
 clear hq hq1
 by_cases kb : b.f0.f1 = 1
 case neg =>
  rw [if_neg (fun h => kb h.1), if_neg (fun h => kb h.1)]
  have gb : (b.f0.f1 == 1) = false := beq_eq_false_iff_ne.mpr kb
  clear kb
  go_enter Tryd.func62, Tryd.ntmps62
  go_wp2_with (first | ((with_reducible refine gate_box rfl ?_); refine ev_box S ?_; clear S; intro _ _ S) | ((with_reducible refine gate_new rfl ?_); refine ev_new S 41 zA ?_; clear S; intro _ _ S) | ((with_reducible refine gate_load rfl ?_); first | refine ev_load S ?_ | refine ev_fld S ?_) | ((with_reducible refine gate_st rfl ?_); refine ev_store S ?_; clear S; intro _ S) | (go_at_call 75; (with_reducible refine (exclude_any b a _ _ rb _ (GW.below HG.out S.out.below) (HB.out.below S.out.below) (HA.out.below S.out.below) fb.len fb.at_ fa.at_ fb.wid fa.wid HT.out).mono ?_); rintro e w7 ⟨v, rfl, hR, hb⟩; obtain ⟨Ao, co, rfl⟩ := hR.slice; replace S := Aside0.mk (S.out.addOp hb hR); clear hb hR) | (go_at_call 64; (with_reducible refine (clone_any a _ _ (HA.out.below S.out.below) fa.len).mono ?_); rintro e w7 ⟨v, rfl, hR, hb⟩; obtain ⟨Ap, cp, rfl⟩ := hR.slice; replace S := Aside0.mk (S.out.addOp hb hR); clear hb hR))
  (refine rg_start (n := 5) (fun W => St w W _ _) [] S.out (fun _ h => h.drew) ?_; clear S; intro _ S; refine ld_ 0 1 S ?_; refine ld_ 1 0 S ?_; refine re_ (rc_ 2 ?_ AllReadyL.nil); intro K hK; refine ks_ 1 S ?_; intro _ S'; refine hK.out _ _ S' ?_; clear S S' hK K; intro S; refine re_ (rc_ 3 ?_ AllReadyL.nil); intro K hK; refine ks_ 0 S ?_; intro _ S'; refine hK.out _ _ S' ?_; clear S S' hK K; intro S; refine pu_ 4 ?_; refine done_ (by kernel_rfl) ?_)
  go_wp2
  exact bodyPost_ret (results_cct rfl _ _ _ _ 41 41 _ _ (0, 0) (0, 0) _ _ rfl (S.at_ 1 rfl) Tryd.underlying41 rfl (by kernel_rfl) rfl (S.at_ 0 rfl) Tryd.underlying41 rfl (by kernel_rfl)) rfl ⟨_, _, rfl, S.now.1.2, S.now.2, S.below⟩
 have gb : (b.f0.f1 == 1) = true := beq_iff_eq.mpr kb
 by_cases ka : a.f0.f1 = 1
 · have g1 : (a.f0.f1 == 1) = true := beq_iff_eq.mpr ka
   have g2 : (a.f0.f1 == 2) = false := by simp [ka]
   have g3 : (a.f0.f1 == 3) = false := by simp [ka]
   by_cases hle : b.f1 ≤ a.f1
   · rw [if_pos ⟨kb, ka, hle⟩]
     have hle' : decide (b.f1 ≤ a.f1) = true := decide_eq_true hle
     have hwr := show IntKind.i64.wrap (a.f1 + wid b) = a.f1 + wid b from IntWalk.i64_in _ (by have := fa.at_; have := fb.wid; omega)
     have HM := Aside0.mk (show (-4611686018427387904 ≤ a.f1 + wid b ∧ a.f1 + wid b ≤ 4611686018427387904) ∧ (-4611686018427387904 ≤ wid a ∧ wid a ≤ 4611686018427387000) by have := fa.at_; have := fb.wid; have := fa.wid; omega)
     clear hle ka kb
     by_cases hm : (moveE a (a.f1 + wid b)).2 = 0
     · rw [if_neg (fun h => h hm)]
       have hm' : ((moveE a (a.f1 + wid b)).2 != 0) = false := bne_eq_false_iff_eq.mpr hm
       clear hm
       go_enter Tryd.func62, Tryd.ntmps62
       go_wp2_with (first | ((with_reducible refine gate_box rfl ?_); refine ev_box S ?_; clear S; intro _ _ S) | ((with_reducible refine gate_new rfl ?_); refine ev_new S 41 zA ?_; clear S; intro _ _ S) | ((with_reducible refine gate_load rfl ?_); first | refine ev_load S ?_ | refine ev_fld S ?_) | ((with_reducible refine gate_st rfl ?_); refine ev_store S ?_; clear S; intro _ S) | (go_at_call 75; (with_reducible refine (exclude_any b a _ _ rb _ (GW.below HG.out S.out.below) (HB.out.below S.out.below) (HA.out.below S.out.below) fb.len fb.at_ fa.at_ fb.wid fa.wid HT.out).mono ?_); rintro e w7 ⟨v, rfl, hR, hb⟩; obtain ⟨Ao, co, rfl⟩ := hR.slice; replace S := Aside0.mk (S.out.addOp hb hR); clear hb hR) | (go_at_call 64; (with_reducible refine (clone_any a _ _ (HA.out.below S.out.below) fa.len).mono ?_); rintro e w7 ⟨v, rfl, hR, hb⟩; obtain ⟨Ap, cp, rfl⟩ := hR.slice; replace S := Aside0.mk (S.out.addOp hb hR); clear hb hR))
       (refine rg_start (n := 12) (fun W => St w W _ _) [10] S.out (fun _ h => h.drew) ?_; clear S; intro _ S; refine ld_ 0 0 S ?_; refine pu_ 1 ?_; refine fl_ 2 3 S ?_; refine ld_ 3 2 S ?_; refine cl_ 4 #[.agg (opA b (.slice B b.f3.length d))] ?_ Tryd.func53; refine (width_any b _ _ (GW.below HG.out S.below) (HB.out.below S.below)).mono ?_; rintro e w7 ⟨rfl, hb⟩; refine ⟨_, rfl, S.step hb, fun S' => ?_⟩; clear S hb; have S := S'; clear S'; refine nr_ ?_; refine pu_ 5 ?_; refine cl_ 6 #[.agg (opA a (.slice Ap a.f3.length cp)), .int .i64 (a.f1 + wid b)] ?_ Tryd.func72; refine (moved_any a _ (a.f1 + wid b) _ (GW.below HG.out S.below) S.now.2.C HM.out.1 HM.out.2).mono ?_; rintro e w7 ⟨v, rfl, hR, hb⟩; obtain ⟨Ai, ci, rfl⟩ := hR.slice; refine ⟨_, rfl, S.step hb, fun _ => ?_⟩; have S' := S.addOp hb hR; clear S hb hR; have S := S'; clear S'; refine nr_ ?_; refine pu_ 7 ?_; refine pu_ 8 ?_; refine pu_ 9 ?_; refine so_ 10 0 S ?_; clear S; intro _ S; refine pu_ 11 ?_; refine done_ (by kernel_rfl) ?_; have S := Aside0.mk S)
       go_wp2_with (fail)
       (refine rg_start (n := 5) (fun W => St w W _ _) [] S.out (fun _ h => h.drew) ?_; clear S; intro _ S; refine ld_ 0 1 S ?_; refine ld_ 1 0 S ?_; refine re_ (rc_ 2 ?_ AllReadyL.nil); intro K hK; refine ks_ 1 S ?_; intro _ S'; refine hK.out _ _ S' ?_; clear S S' hK K; intro S; refine re_ (rc_ 3 ?_ AllReadyL.nil); intro K hK; refine ks_ 0 S ?_; intro _ S'; refine hK.out _ _ S' ?_; clear S S' hK K; intro S; refine pu_ 4 ?_; refine done_ (by kernel_rfl) ?_)
       go_wp2
       exact bodyPost_ret (results_cct rfl _ _ _ _ 41 41 _ _ (0, 0) (0, 0) _ _ rfl (S.at_ 1 rfl) Tryd.underlying41 rfl (by kernel_rfl) rfl (S.at_ 0 rfl) Tryd.underlying41 rfl (by kernel_rfl)) rfl ⟨_, _, rfl, S.now.1.1.2, S.now.2, S.below⟩
     · rw [if_pos hm]
       have hm' : ((moveE a (a.f1 + wid b)).2 != 0) = true := bne_iff_ne.mpr hm
       clear hm
       go_enter Tryd.func62, Tryd.ntmps62
       go_wp2_with (first | ((with_reducible refine gate_box rfl ?_); refine ev_box S ?_; clear S; intro _ _ S) | ((with_reducible refine gate_new rfl ?_); refine ev_new S 41 zA ?_; clear S; intro _ _ S) | ((with_reducible refine gate_load rfl ?_); first | refine ev_load S ?_ | refine ev_fld S ?_) | ((with_reducible refine gate_st rfl ?_); refine ev_store S ?_; clear S; intro _ S) | (go_at_call 75; (with_reducible refine (exclude_any b a _ _ rb _ (GW.below HG.out S.out.below) (HB.out.below S.out.below) (HA.out.below S.out.below) fb.len fb.at_ fa.at_ fb.wid fa.wid HT.out).mono ?_); rintro e w7 ⟨v, rfl, hR, hb⟩; obtain ⟨Ao, co, rfl⟩ := hR.slice; replace S := Aside0.mk (S.out.addOp hb hR); clear hb hR) | (go_at_call 64; (with_reducible refine (clone_any a _ _ (HA.out.below S.out.below) fa.len).mono ?_); rintro e w7 ⟨v, rfl, hR, hb⟩; obtain ⟨Ap, cp, rfl⟩ := hR.slice; replace S := Aside0.mk (S.out.addOp hb hR); clear hb hR))
       (refine rg_start (n := 12) (fun W => St w W _ _) [10] S.out (fun _ h => h.drew) ?_; clear S; intro _ S; refine ld_ 0 0 S ?_; refine pu_ 1 ?_; refine fl_ 2 3 S ?_; refine ld_ 3 2 S ?_; refine cl_ 4 #[.agg (opA b (.slice B b.f3.length d))] ?_ Tryd.func53; refine (width_any b _ _ (GW.below HG.out S.below) (HB.out.below S.below)).mono ?_; rintro e w7 ⟨rfl, hb⟩; refine ⟨_, rfl, S.step hb, fun S' => ?_⟩; clear S hb; have S := S'; clear S'; refine nr_ ?_; refine pu_ 5 ?_; refine cl_ 6 #[.agg (opA a (.slice Ap a.f3.length cp)), .int .i64 (a.f1 + wid b)] ?_ Tryd.func72; refine (moved_any a _ (a.f1 + wid b) _ (GW.below HG.out S.below) S.now.2.C HM.out.1 HM.out.2).mono ?_; rintro e w7 ⟨v, rfl, hR, hb⟩; obtain ⟨Ai, ci, rfl⟩ := hR.slice; refine ⟨_, rfl, S.step hb, fun _ => ?_⟩; have S' := S.addOp hb hR; clear S hb hR; have S := S'; clear S'; refine nr_ ?_; refine pu_ 7 ?_; refine pu_ 8 ?_; refine pu_ 9 ?_; refine so_ 10 0 S ?_; clear S; intro _ S; refine pu_ 11 ?_; refine done_ (by kernel_rfl) ?_; have S := Aside0.mk S)
       go_wp2_with (((with_reducible refine gate_st rfl ?_); refine ev_store S ?_; clear S; intro _ S))
       exact bodyPost_ret (results_cct rfl _ _ _ _ 41 41 zA zA (0, 0) (0, 0) _ _ rfl (S.out.at_ 1 rfl) Tryd.underlying41 rfl (by kernel_rfl) rfl (S.out.at_ 0 rfl) Tryd.underlying41 rfl (by kernel_rfl)) rfl ⟨.slice none 0 0, .slice none 0 0, rfl, opR_nil _ _, opR_nil _ _, S.out.below⟩
   · rw [if_neg (fun h => hle h.2.2), if_neg (show ¬ (b.f0.f1 = 1 ∧ (a.f0.f1 = 2 ∨ a.f0.f1 = 3)) by omega)]
     have hle' : decide (b.f1 ≤ a.f1) = false := decide_eq_false hle
     clear hle ka kb
     go_enter Tryd.func62, Tryd.ntmps62
     go_wp2_with (first | ((with_reducible refine gate_box rfl ?_); refine ev_box S ?_; clear S; intro _ _ S) | ((with_reducible refine gate_new rfl ?_); refine ev_new S 41 zA ?_; clear S; intro _ _ S) | ((with_reducible refine gate_load rfl ?_); first | refine ev_load S ?_ | refine ev_fld S ?_) | ((with_reducible refine gate_st rfl ?_); refine ev_store S ?_; clear S; intro _ S) | (go_at_call 75; (with_reducible refine (exclude_any b a _ _ rb _ (GW.below HG.out S.out.below) (HB.out.below S.out.below) (HA.out.below S.out.below) fb.len fb.at_ fa.at_ fb.wid fa.wid HT.out).mono ?_); rintro e w7 ⟨v, rfl, hR, hb⟩; obtain ⟨Ao, co, rfl⟩ := hR.slice; replace S := Aside0.mk (S.out.addOp hb hR); clear hb hR) | (go_at_call 64; (with_reducible refine (clone_any a _ _ (HA.out.below S.out.below) fa.len).mono ?_); rintro e w7 ⟨v, rfl, hR, hb⟩; obtain ⟨Ap, cp, rfl⟩ := hR.slice; replace S := Aside0.mk (S.out.addOp hb hR); clear hb hR))
     (refine rg_start (n := 5) (fun W => St w W _ _) [] S.out (fun _ h => h.drew) ?_; clear S; intro _ S; refine ld_ 0 1 S ?_; refine ld_ 1 0 S ?_; refine re_ (rc_ 2 ?_ AllReadyL.nil); intro K hK; refine ks_ 1 S ?_; intro _ S'; refine hK.out _ _ S' ?_; clear S S' hK K; intro S; refine re_ (rc_ 3 ?_ AllReadyL.nil); intro K hK; refine ks_ 0 S ?_; intro _ S'; refine hK.out _ _ S' ?_; clear S S' hK K; intro S; refine pu_ 4 ?_; refine done_ (by kernel_rfl) ?_)
     go_wp2
     exact bodyPost_ret (results_cct rfl _ _ _ _ 41 41 _ _ (0, 0) (0, 0) _ _ rfl (S.at_ 1 rfl) Tryd.underlying41 rfl (by kernel_rfl) rfl (S.at_ 0 rfl) Tryd.underlying41 rfl (by kernel_rfl)) rfl ⟨_, _, rfl, S.now.1.2, S.now.2, S.below⟩
 · have g1 : (a.f0.f1 == 1) = false := beq_eq_false_iff_ne.mpr ka
   rw [if_neg (fun h => ka h.2.1)]
   by_cases kh : a.f0.f1 = 2 ∨ a.f0.f1 = 3
   · rw [if_pos ⟨kb, kh⟩]
     have g23 : (a.f0.f1 == 2) = true ∨ (a.f0.f1 == 2) = false ∧ (a.f0.f1 == 3) = true := by
      rcases kh with h | h
      · exact .inl (by simp [h])
      · exact .inr ⟨by simp [h], by simp [h]⟩
     clear ka kb kh
     by_cases hm : (incP a b false ra).2 = 0
     · rw [if_neg (fun h => h hm)]
       have hm' : ((incP a b false ra).2 != 0) = false := bne_eq_false_iff_eq.mpr hm
       clear hm
       rcases g23 with g2 | ⟨g2, g3⟩
       all_goals
        go_enter Tryd.func62, Tryd.ntmps62
        go_wp2_with (first | ((with_reducible refine gate_box rfl ?_); refine ev_box S ?_; clear S; intro _ _ S) | ((with_reducible refine gate_new rfl ?_); refine ev_new S 41 zA ?_; clear S; intro _ _ S) | ((with_reducible refine gate_load rfl ?_); first | refine ev_load S ?_ | refine ev_fld S ?_) | ((with_reducible refine gate_st rfl ?_); refine ev_store S ?_; clear S; intro _ S) | (go_at_call 75; (with_reducible refine (exclude_any b a _ _ rb _ (GW.below HG.out S.out.below) (HB.out.below S.out.below) (HA.out.below S.out.below) fb.len fb.at_ fa.at_ fb.wid fa.wid HT.out).mono ?_); rintro e w7 ⟨v, rfl, hR, hb⟩; obtain ⟨Ao, co, rfl⟩ := hR.slice; replace S := Aside0.mk (S.out.addOp hb hR); clear hb hR) | (go_at_call 64; (with_reducible refine (clone_any a _ _ (HA.out.below S.out.below) fa.len).mono ?_); rintro e w7 ⟨v, rfl, hR, hb⟩; obtain ⟨Ap, cp, rfl⟩ := hR.slice; replace S := Aside0.mk (S.out.addOp hb hR); clear hb hR) | (go_at_call 56; (with_reducible refine (include_any a b false _ _ ra _ (GW.below HG.out S.out.below) (HA.out.below S.out.below) (HB.out.below S.out.below) fa.len fa.at_ fa.wid fb.wid HU.out).mono ?_); rintro e w7 ⟨v, rfl, hR, hb⟩; obtain ⟨Ai, ci, rfl⟩ := hR.slice; replace S := Aside0.mk (S.out.addOp hb hR); clear hb hR))
        (refine rg_start (n := 5) (fun W => St w W _ _) [] S.out (fun _ h => h.drew) ?_; clear S; intro _ S; refine ld_ 0 1 S ?_; refine ld_ 1 0 S ?_; refine re_ (rc_ 2 ?_ AllReadyL.nil); intro K hK; refine ks_ 1 S ?_; intro _ S'; refine hK.out _ _ S' ?_; clear S S' hK K; intro S; refine re_ (rc_ 3 ?_ AllReadyL.nil); intro K hK; refine ks_ 0 S ?_; intro _ S'; refine hK.out _ _ S' ?_; clear S S' hK K; intro S; refine pu_ 4 ?_; refine done_ (by kernel_rfl) ?_)
        go_wp2
        exact bodyPost_ret (results_cct rfl _ _ _ _ 41 41 _ _ (0, 0) (0, 0) _ _ rfl (S.at_ 1 rfl) Tryd.underlying41 rfl (by kernel_rfl) rfl (S.at_ 0 rfl) Tryd.underlying41 rfl (by kernel_rfl)) rfl ⟨_, _, rfl, S.now.1.1.2, S.now.2, S.below⟩
     · rw [if_pos hm]
       have hm' : ((incP a b false ra).2 != 0) = true := bne_iff_ne.mpr hm
       clear hm
       rcases g23 with g2 | ⟨g2, g3⟩
       all_goals
        go_enter Tryd.func62, Tryd.ntmps62
        go_wp2_with (first | ((with_reducible refine gate_box rfl ?_); refine ev_box S ?_; clear S; intro _ _ S) | ((with_reducible refine gate_new rfl ?_); refine ev_new S 41 zA ?_; clear S; intro _ _ S) | ((with_reducible refine gate_load rfl ?_); first | refine ev_load S ?_ | refine ev_fld S ?_) | ((with_reducible refine gate_st rfl ?_); refine ev_store S ?_; clear S; intro _ S) | (go_at_call 75; (with_reducible refine (exclude_any b a _ _ rb _ (GW.below HG.out S.out.below) (HB.out.below S.out.below) (HA.out.below S.out.below) fb.len fb.at_ fa.at_ fb.wid fa.wid HT.out).mono ?_); rintro e w7 ⟨v, rfl, hR, hb⟩; obtain ⟨Ao, co, rfl⟩ := hR.slice; replace S := Aside0.mk (S.out.addOp hb hR); clear hb hR) | (go_at_call 64; (with_reducible refine (clone_any a _ _ (HA.out.below S.out.below) fa.len).mono ?_); rintro e w7 ⟨v, rfl, hR, hb⟩; obtain ⟨Ap, cp, rfl⟩ := hR.slice; replace S := Aside0.mk (S.out.addOp hb hR); clear hb hR) | (go_at_call 56; (with_reducible refine (include_any a b false _ _ ra _ (GW.below HG.out S.out.below) (HA.out.below S.out.below) (HB.out.below S.out.below) fa.len fa.at_ fa.wid fb.wid HU.out).mono ?_); rintro e w7 ⟨v, rfl, hR, hb⟩; obtain ⟨Ai, ci, rfl⟩ := hR.slice; replace S := Aside0.mk (S.out.addOp hb hR); clear hb hR))
        exact bodyPost_ret (results_cct rfl _ _ _ _ 41 41 zA zA (0, 0) (0, 0) _ _ rfl (S.out.at_ 1 rfl) Tryd.underlying41 rfl (by kernel_rfl) rfl (S.out.at_ 0 rfl) Tryd.underlying41 rfl (by kernel_rfl)) rfl ⟨.slice none 0 0, .slice none 0 0, rfl, opR_nil _ _, opR_nil _ _, S.out.below⟩
   · rw [if_neg (fun h => kh h.2)]
     have g2 : (a.f0.f1 == 2) = false := beq_eq_false_iff_ne.mpr (fun h => kh (.inl h))
     have g3 : (a.f0.f1 == 3) = false := beq_eq_false_iff_ne.mpr (fun h => kh (.inr h))
     clear ka kb kh
     go_enter Tryd.func62, Tryd.ntmps62
     go_wp2_with (first | ((with_reducible refine gate_box rfl ?_); refine ev_box S ?_; clear S; intro _ _ S) | ((with_reducible refine gate_new rfl ?_); refine ev_new S 41 zA ?_; clear S; intro _ _ S) | ((with_reducible refine gate_load rfl ?_); first | refine ev_load S ?_ | refine ev_fld S ?_) | ((with_reducible refine gate_st rfl ?_); refine ev_store S ?_; clear S; intro _ S) | (go_at_call 75; (with_reducible refine (exclude_any b a _ _ rb _ (GW.below HG.out S.out.below) (HB.out.below S.out.below) (HA.out.below S.out.below) fb.len fb.at_ fa.at_ fb.wid fa.wid HT.out).mono ?_); rintro e w7 ⟨v, rfl, hR, hb⟩; obtain ⟨Ao, co, rfl⟩ := hR.slice; replace S := Aside0.mk (S.out.addOp hb hR); clear hb hR) | (go_at_call 64; (with_reducible refine (clone_any a _ _ (HA.out.below S.out.below) fa.len).mono ?_); rintro e w7 ⟨v, rfl, hR, hb⟩; obtain ⟨Ap, cp, rfl⟩ := hR.slice; replace S := Aside0.mk (S.out.addOp hb hR); clear hb hR))
     (refine rg_start (n := 5) (fun W => St w W _ _) [] S.out (fun _ h => h.drew) ?_; clear S; intro _ S; refine ld_ 0 1 S ?_; refine ld_ 1 0 S ?_; refine re_ (rc_ 2 ?_ AllReadyL.nil); intro K hK; refine ks_ 1 S ?_; intro _ S'; refine hK.out _ _ S' ?_; clear S S' hK K; intro S; refine re_ (rc_ 3 ?_ AllReadyL.nil); intro K hK; refine ks_ 0 S ?_; intro _ S'; refine hK.out _ _ S' ?_; clear S S' hK K; intro S; refine pu_ 4 ?_; refine done_ (by kernel_rfl) ?_)
     go_wp2
     exact bodyPost_ret (results_cct rfl _ _ _ _ 41 41 _ _ (0, 0) (0, 0) _ _ rfl (S.at_ 1 rfl) Tryd.underlying41 rfl (by kernel_rfl) rfl (S.at_ 0 rfl) Tryd.underlying41 rfl (by kernel_rfl)) rfl ⟨_, _, rfl, S.now.1.2, S.now.2, S.below⟩
end Go.Proofs.YtloccjkcmlkifaaDoor
end

section
/- Transpose, as both sides have it; the program's. -/
namespace Go.Proofs.YtloccjkcmlkifaaDoor
open Go.RowKit Go.Proofs.YtloccjkcmlkifaaDoor.PAll Go.Proofs.YtloccjkcmlkifaaDoorW.PrintWords

def trE (a b : S41) : S41 × S41 × Int :=
 if (excE b a).2 ≠ 0 then (z41, z41, (excE b a).2)
 else if trClash a b = true then (z41, z41, 50)
 else if b.f0.f1 = 1 ∧ a.f0.f1 = 1 ∧ b.f1 ≤ a.f1 then (if (moveE a (a.f1 + wid b)).2 ≠ 0 then (z41, z41, (moveE a (a.f1 + wid b)).2) else ((excE b a).1, (moveE a (a.f1 + wid b)).1, 0))
 else if b.f0.f1 = 1 ∧ (a.f0.f1 = 2 ∨ a.f0.f1 = 3) then (if (incE a b false).2 ≠ 0 then (z41, z41, (incE a b false).2) else ((excE b a).1, (incE a b false).1, 0))
 else ((excE b a).1, a, 0)
theorem trE_prog (a b : S41) (va vb : Value) (w : World) (hG : GW w) (ha : OpC w va a) (hb : OpC w vb b) (ga : Good a) (gb : Good b) :
 Calls Tryd.prog 62 #[.agg (opA a va), .agg (opA b vb)] w (RetOp2 w (trE a b)) := by
 obtain ⟨rb, h, e⟩ := exc_r gb ga
 have et : trP a b rb (thrE a.f3 b.f1 (wid b)) = trE a b := by
  unfold trP trE
  rw [e]
  rfl
 rw [← et]
 exact transpose_any a b va vb rb _ w hG ha hb ga.fit gb.fit h fun h1 h2 => by
  have hb1 := gb.wid1 h2
  exact through_is a.f3 b.f1 (wid b) (ga.rng h1) ⟨hb1.2.2.1, by omega⟩ ⟨hb1.1, by omega⟩ (last_bound (ga.rng h1))
end Go.Proofs.YtloccjkcmlkifaaDoor
end

section
/- Runs: their own errors, on both sides; an element that is read. -/
namespace Go.Proofs.YtloccjkcmlkifaaDoor
open Go.RowKit Go.Proofs.YtloccjkcmlkifaaDoor.PAll Go.Proofs.YtloccjkcmlkifaaDoorW.PrintWords

def ownsE : List S41 → Int
 | [] => 0
 | o :: t => if ownE o = 0 then ownsE t else ownE o
theorem owns_good : ∀ {l : List S41}, ownsE l = 0 → (∀ o ∈ l, fineOp o) → ∀ o ∈ l, Good o
 | o :: t, h, hf, x, hx => by
  unfold ownsE at h
  by_cases c : ownE o = 0
  · rw [if_pos c] at h
    rcases List.mem_cons.1 hx with rfl | hx
    · exact ⟨c, hf _ (by simp)⟩
    · exact owns_good h (fun y hy => hf y (by simp [hy])) x hx
  · rw [if_neg c] at h; exact absurd h c
theorem owns_loop (l : List S41) (hf : ∀ o ∈ l, fineOp o) (hl : l.length ≤ 1048576) : ∀ (d i : Nat), l.length = i + d → Ev (fun k => xform_owns.l0 k l (l.length : Int) (i : Int)) (ownsE (l.drop i)) := by
 intro d
 induction d with
 | zero =>
  intro i h
  refine ⟨1, fun k hk => ?_⟩
  obtain ⟨k, rfl⟩ : ∃ m, k = m + 1 := ⟨k - 1, by omega⟩
  simp only
  rw [xform_owns.l0, if_neg (by omega), List.drop_eq_nil_of_le (by omega)]
  rfl
 | succ d ih =>
  intro i h
  have hi : i < l.length := by omega
  obtain ⟨K1, h1⟩ := ih (i + 1) (by omega)
  obtain ⟨o, ho⟩ : ∃ o, o = l.getD i z41 := ⟨_, rfl⟩
  have hd : l.drop i = o :: l.drop (i + 1) := by
   rw [ho, List.drop_eq_getElem_cons hi, List.getD_eq_getElem?_getD, List.getElem?_eq_getElem hi]; rfl
  have hm : o ∈ l := by
   rw [ho, List.getD_eq_getElem?_getD, List.getElem?_eq_getElem hi]; exact List.getElem_mem hi
  have hfo := hf o hm
  obtain ⟨K2, h2⟩ := own_is o hfo.1 (by have := hfo.2; omega)
  dsimp only at h1 h2
  have e : rd_T41 l (i : Int) = o := by unfold rd_T41; rw [Int.toNat_natCast, ho]
  have w : wrap64 ((i : Int) + 1) = ((i + 1 : Nat) : Int) := by rw [wrap_id (by omega) (by omega)]; omega
  have q1 : (i : Int) < (l.length : Int) := by omega
  have q2 : (0 : Int) ≤ (i : Int) := by omega
  refine ⟨K1 + K2 + 1, fun k hk => ?_⟩
  obtain ⟨k, rfl⟩ : ∃ m, k = m + 1 := ⟨k - 1, by omega⟩
  simp only
  rw [xform_owns.l0, if_pos q1, if_pos q2, if_pos q1, e, h2 k (by omega)]
  simp only [Option.bind_some]
  rw [hd]
  unfold ownsE
  by_cases c : ownE o = 0
  · rw [if_pos c, if_pos c, w, h1 k (by omega)]
  · rw [if_neg c, if_neg c]
theorem rowns_loop (l : List S41) (hf : ∀ o ∈ l, fineOp o) (hl : l.length ≤ 1048576) : ∀ (d i : Nat), l.length = i + d → Ev (fun k => redraftref05_own.l0 k l (i : Int)) (ownsE (l.drop i)) := by
 intro d
 induction d with
 | zero =>
  intro i h
  refine ⟨1, fun k hk => ?_⟩
  obtain ⟨k, rfl⟩ : ∃ m, k = m + 1 := ⟨k - 1, by omega⟩
  simp only
  rw [redraftref05_own.l0, if_neg (by omega), List.drop_eq_nil_of_le (by omega)]
  rfl
 | succ d ih =>
  intro i h
  have hi : i < l.length := by omega
  obtain ⟨K1, h1⟩ := ih (i + 1) (by omega)
  obtain ⟨o, ho⟩ : ∃ o, o = l.getD i z41 := ⟨_, rfl⟩
  have hd : l.drop i = o :: l.drop (i + 1) := by
   rw [ho, List.drop_eq_getElem_cons hi, List.getD_eq_getElem?_getD, List.getElem?_eq_getElem hi]; rfl
  have hm : o ∈ l := by
   rw [ho, List.getD_eq_getElem?_getD, List.getElem?_eq_getElem hi]; exact List.getElem_mem hi
  have hfo := hf o hm
  obtain ⟨K2, h2⟩ := rown_is o hfo.1 (by have := hfo.2; omega)
  dsimp only at h1 h2
  have e : rd_T41 l (i : Int) = o := by unfold rd_T41; rw [Int.toNat_natCast, ho]
  have w : wrap64 ((i : Int) + 1) = ((i + 1 : Nat) : Int) := by rw [wrap_id (by omega) (by omega)]; omega
  have q1 : (i : Int) < (l.length : Int) := by omega
  have q2 : (0 : Int) ≤ (i : Int) := by omega
  refine ⟨K1 + K2 + 1, fun k hk => ?_⟩
  obtain ⟨k, rfl⟩ : ∃ m, k = m + 1 := ⟨k - 1, by omega⟩
  simp only
  rw [redraftref05_own.l0, if_pos q1, if_pos q2, e, h2 k (by omega)]
  simp only [Option.bind_some]
  rw [hd]
  unfold ownsE
  by_cases c : ownE o = 0
  · rw [if_pos c, if_pos c, w, h1 k (by omega)]
  · rw [if_neg c, if_neg c]
def RunC (w : World) (v : Value) (l : List S41) : Prop := ∃ A c, v = .slice A l.length c ∧ l.length ≤ c ∧ k41.C w A l.length l
theorem RunC.below {w w' : World} {v : Value} {l : List S41} (h : RunC w v l) (hb : Below w.heap.size w w') : RunC w' v l := by
 obtain ⟨A, c, e, h1, h2⟩ := h
 exact ⟨A, c, e, h1, Kd.C_below h2 hb⟩
theorem runC_mk {w : World} {l : List S41} {A : Option Addr} {c : Nat} (h1 : l.length ≤ c) (h2 : k41.C w A l.length l) : RunC w (.slice A l.length c) l := ⟨A, c, rfl, h1, h2⟩
theorem owns_any (l : List S41) (v : Value) (w : World) (hG : GW w) (h : RunC w v l) (hf : ∀ o ∈ l, fineOp o) (hl : l.length ≤ 1048576) : Calls Tryd.prog 55 #[v] w fun e w' => e = .returned (.int .i64 (ownsE l)) ∧ Below w.heap.size w w' := by
 obtain ⟨A, c, rfl, h1, h2⟩ := h
 obtain ⟨K, hK⟩ := owns_loop l hf hl l.length 0 (by omega)
 exact xform_owns.calls K A c l _ w h2 h1 hG (by unfold xform_owns.f; exact hK K (Nat.le_refl _))
theorem rowns_any (l : List S41) (v : Value) (w : World) (h : RunC w v l) (hf : ∀ o ∈ l, fineOp o) (hl : l.length ≤ 1048576) : Calls Tryd.prog 95 #[v] w fun e w' => e = .returned (.int .i64 (ownsE l)) ∧ Below w.heap.size w w' := by
 obtain ⟨A, c, rfl, h1, h2⟩ := h
 obtain ⟨K, hK⟩ := rowns_loop l hf hl l.length 0 (by omega)
 exact redraftref05_own.calls K A c l _ w h2 h1 (by unfold redraftref05_own.f; exact hK K (Nat.le_refl _))
end Go.Proofs.YtloccjkcmlkifaaDoor
end

section
/- xform.Over: an operation carried over a run. -/
namespace Go.Proofs.YtloccjkcmlkifaaDoor
open Go.RowKit Go.Proofs.YtloccjkcmlkifaaDoor.PAll Go.Proofs.YtloccjkcmlkifaaDoorW.PrintWords

section
variable {P : Program} {ops : Array Oper} {rest : List Oper} {o : Oper} {a : Act} {Q : Exit → Act → World → Prop} {W : World}
theorem ev_ext (cs : Array Value) {N : Tmp} {ty : TypeId} {x : Operand} {d : TypeDesc} {ad : Addr} (hc : atL W ad 0 cs.toList)
 (h : wpList P ops Q rest (a.put (some N) (.agg cs)) W)
 (ho : o.op = .load ty x := by rfl) (hx : a.eval x = .pointer (some ad) := by rfl) (hd : o.dst = some N := by rfl)
 (hw : Region.wanted o (yielded ops a.tmps) = true := by first | exact wanted_plain rfl | (refine wanted_on rfl ?_; simp [yielded])) (hu : P.underlying ty = some d := by first | exact Tryd.underlying41 | exact Tryd.underlying100) (hdd : (match d with | .struct _ | .array _ _ => true | _ => false) = true := by rfl) (hi : (P.info? ty).map (·.size) = some cs.size := by kernel_rfl) : wpList P ops Q (o :: rest) a W := by
 have hr := run_load_wide (P := P) W ad ty cs.toList d hc hu hdd (by simpa using hi)
 refine ev_run (v := .agg cs) hw ?_ (by rw [hd]; exact h)
 unfold execOp
 simp only [ho, hx, Instr.loadAt, Instr.sureAddr, Sem.run_bind, Sem.run_pure, Result.andThen_ok, hr]
end

def overF (e : Bool) (s : S41 × Int) (x : S41) : S41 × Int := if s.2 = 0 then incE s.1 x e else s
structure OverAt (err : Int) (o : S41) (e : Bool) (run : List S41) (w : World) (g6 g3 : Nat) (k : Nat) (s : S41 × Int) (A : Option Addr) (c : Nat) (wr : World) : Prop where
 eq : s = (run.take k).foldl (overF e) (o, err)
 st : St w wr [(g6, 41, zA), (g3, 41, opA s.1 (.slice A s.1.f3.length c))] (fun W => True ∧ OpR W w.heap.size (.slice A s.1.f3.length c) s.1)
end Go.Proofs.YtloccjkcmlkifaaDoor
end

section
/- The document's Over answers as the program's. -/
namespace Go.Proofs.YtloccjkcmlkifaaDoor
open Go.RowKit Go.Proofs.YtloccjkcmlkifaaDoor.PAll Go.Proofs.YtloccjkcmlkifaaDoorW.PrintWords Go.Proofs.YtloccjkcmlkifaaDoorW.PrintLast

section
variable {P : Program} {ops : Array Oper} {Q : Exit → Act → World → Prop} {md : Region.Mode} {S : World → Prop} {ds : List Nat} {fuel : Nat} {l : Array Bool} {a a' : Act} {w w0 : World} {oi : Oper} {N : Tmp} {rest : List Oper} {o : Oper} {W : World} {bs : List Bx} {F : World → Prop}
theorem le_ (i : Nat) (cs : Array Value) {ty : TypeId} {x : Operand} {d : TypeDesc} {ad : Addr} (hS : S w) (hcc : ∀ w', S w' → atL w' ad 0 cs.toList)
 (h : wpAnyLast P md ops Q S ds fuel (l.setIfInBounds i true) a' w)
 (hi : ops[i]? = some oi := by rfl) (hN : oi.dst = some N := by rfl) (hc : takeB md ops ds l (l.setIfInBounds i true) i = true := by kernel_rfl)
 (ho : oi.op = .load ty x := by rfl) (hx : a.eval x = .pointer (some ad) := by rfl)
 (hw : Region.wanted oi (yielded ops a.tmps) = true := by first | exact wanted_plain rfl | (refine wanted_on rfl ?_; simp [yielded]))
 (hu : P.underlying ty = some d := by first | exact Tryd.underlying41 | exact Tryd.underlying100) (hdd : (match d with | .struct _ | .array _ _ => true | _ => false) = true := by rfl) (hs : (P.info? ty).map (·.size) = some cs.size := by kernel_rfl)
 (ha : a.put (some N) (.agg cs) = a' := by (simp only [Act.put, List.setIfInBounds_toArray, List.set_cons_zero, List.set_cons_succ]; rfl))
 (hQ : ∀ c a w, Q (.panic c) (a.put oi.dst (.agg cs)) w → Q (.panic c) a w := by exact fun _ _ _ h => h) : wpAnyLast P md ops Q S ds (fuel + 1) l a w :=
 take_ (l.setIfInBounds i true) hi hN hc hQ (.inl ⟨hw, fun w' hS' => by
  have hr := run_load_wide (P := P) w' ad ty cs.toList d (hcc w' hS') hu hdd (by simpa using hs)
  unfold execOp
  simp only [ho, hx, Instr.loadAt, Instr.sureAddr, Sem.run_bind, Sem.run_pure, Result.andThen_ok, hr]⟩) hS ha h
theorem ev_lit (S : Aside0 (St w0 W bs F)) (cs : Array Value) (n : Nat) {ty : TypeId} {xs : Array (Nat × Operand)}
 (h : ∀ g w', Aside0 (St w0 w' ((g, 41, cs) :: bs) F) → wpList P ops Q rest (a.put (some N) (.slice (some ⟨g, 0, none⟩) n n)) w')
 (ho : o.op = .buildSlice ty n xs := by rfl) (hd : o.dst = some N := by rfl) (hw : Region.wanted o (yielded ops a.tmps) = true := by exact wanted_plain rfl)
 (hrun : (execOp a.eval o).run P W = .ok (.value (.slice (some ⟨W.heap.size, 0, none⟩) n n)) (W.alloc (.cells cs 41 (0, 0))) := by first | (go_simp; done) | (go_simp; rfl)) : wpList P ops Q (o :: rest) a W :=
 have _ := ho
 ev_run hw hrun (by rw [hd]; exact h _ _ ⟨S.out.push (below_alloc (Below.refl _ _) _) (blk_new W _) rfl⟩)
end
theorem opA_K {w : World} {v : Value} {o : S41} (h : OpC w v o) : k41.K w o (opA o v).toList := by
 obtain ⟨A, c, rfl, h1, h2⟩ := h
 exact k41_mk w o h1 h2
theorem runC_box2 {w : World} {g : Nat} {v u : Value} {o p : S41} (h : w.heap[g]? = some (.cells (opA o v ++ opA p u) 41 (0, 0))) (ho : OpC w v o) (hp : OpC w u p) : RunC w (.slice (some ⟨g, 0, none⟩) 2 2) [o, p] := by
 refine ⟨some ⟨g, 0, none⟩, 2, rfl, Nat.le_refl _, rfl, by simp, fun _ => ⟨_, rfl, fun j q hj => ?_⟩⟩
 match j, hj with
 | 0, hj =>
  obtain rfl := Option.some.inj hj
  refine ⟨_, rfl, opA_K ho, fun i x hx => ?_⟩
  have hi : i < 9 := (List.getElem?_eq_some_iff.1 hx).1
  rw [add_plain, blk_cell h, ← hx, Nat.zero_mul, Nat.zero_add, Array.getElem?_append_left (by simpa using hi)]
  simp
 | 1, hj =>
  obtain rfl := Option.some.inj hj
  refine ⟨_, rfl, opA_K hp, fun i x hx => ?_⟩
  have e : 1 * k41.sz = 9 := rfl
  rw [add_plain, blk_cell h, ← hx, e, Array.getElem?_append_right (by simp)]
  simp
 | j + 2, hj => simp at hj
theorem gate_lit {P : Program} {ops : Array Oper} {rest : List Oper} {o : Oper} {a : Act} {Q : Exit → Act → World → Prop} {W : World} {t : TypeId} {n : Nat} {xs : Array (Nat × Operand)} (_ho : o.op = .buildSlice t n xs) (h : wpList P ops Q (o :: rest) a W) : wpList P ops Q (o :: rest) a W := h
end Go.Proofs.YtloccjkcmlkifaaDoor
end

section
/- Include, Exclude, Transpose of the program, told of whole operations. -/
namespace Go.Proofs.YtloccjkcmlkifaaDoor
open Go.RowKit Go.Proofs.YtloccjkcmlkifaaDoor.PAll Go.Proofs.YtloccjkcmlkifaaDoorW.PrintWords Go.Proofs.YtloccjkcmlkifaaDoorW.PrintLast

def wrap1 (a b : S41) (r : S41 × Int) : S41 × Int := if ownsE [a, b] = 0 then r else (z41, ownsE [a, b])
def wrap2 (a b : S41) (r : S41 × S41 × Int) : S41 × S41 × Int := if ownsE [a, b] = 0 then r else (z41, z41, ownsE [a, b])
theorem owns_goods {a b : S41} (h : ownsE [a, b] = 0) (fa : fineOp a) (fb : fineOp b) : Good a ∧ Good b :=
 have g := owns_good h (by intro x hx; simp only [List.mem_cons, List.not_mem_nil, or_false] at hx; rcases hx with rfl | rfl <;> assumption)
 ⟨g a (by simp), g b (by simp)⟩
set_option maxRecDepth 100000 in
set_option maxHeartbeats 4000000 in
theorem Include_any (a b : S41) (e : Bool) (va vb : Value) (w : World) (hG : GW w) (ha : OpC w va a) (hb : OpC w vb b) (fa : fineOp a) (fb : fineOp b) :
 Calls Tryd.prog 26 #[.agg (opA a va), .agg (opA b vb), .bool e] w (RetOp w (wrap1 a b (incE a b e))) := by
 obtain ⟨A, c, rfl, h1, h2⟩ := ha
 obtain ⟨B, d, rfl, h3, h4⟩ := hb
 have S := Aside0.mk (St.init w (F := fun _ => True) (fun _ _ => trivial))
 have HA := Aside0.mk (opC_mk h1 h2); have HB := Aside0.mk (opC_mk h3 h4)
 have HG := Aside0.mk hG
 have HF := Aside0.mk (show ∀ x ∈ [a, b], fineOp x by intro x hx; simp only [List.mem_cons, List.not_mem_nil, or_false] at hx; rcases hx with rfl | rfl <;> assumption)
 have HLE := Aside0.mk (show [a, b].length ≤ 1048576 by simp)
 unfold wrap1
 clear h1 h2 h3 h4 hG
 by_cases h : ownsE [a, b] = 0
 · rw [if_pos h]
   have HX := Aside0.mk (owns_goods h fa fb)
   have h' : (ownsE [a, b] != 0) = false := bne_eq_false_iff_eq.mpr h
   clear h fa fb
   go_enter Tryd.func26, Tryd.ntmps26
   go_wp2_with (first | ((with_reducible refine gate_box rfl ?_); refine ev_box S ?_; clear S; intro _ _ S) | ((with_reducible refine gate_new rfl ?_); refine ev_new S 41 zA ?_; clear S; intro _ _ S) | ((with_reducible refine gate_load rfl ?_); refine ev_load S ?_) | ((with_reducible refine gate_lit rfl ?_); refine ev_lit S (opA a (.slice A a.f3.length c) ++ opA b (.slice B b.f3.length d)) 2 ?_; clear S; intro _ _ S) | (go_at_call 55; (with_reducible refine (owns_any [a, b] _ _ (GW.below HG.out S.out.below) (runC_box2 (S.out.at_ 0 rfl) (HA.out.below S.out.below) (HB.out.below S.out.below)) HF.out HLE.out).mono ?_); rintro e_ w7 ⟨rfl, hb⟩; replace S := Aside0.mk (S.out.step hb); clear hb) | ((with_reducible refine gate_st rfl ?_); refine ev_store S ?_; clear S; intro _ S) | (go_at_call 56; (with_reducible refine (incE_prog a b e _ _ _ (GW.below HG.out S.out.below) (HA.out.below S.out.below) (HB.out.below S.out.below) HX.out.1 HX.out.2).mono ?_); rintro e_ w7 ⟨v, rfl, hR, hb⟩; obtain ⟨Ai, ci, rfl⟩ := hR.slice; replace S := Aside0.mk (S.out.addOp hb hR); clear hb hR))
   exact bodyPost_ret (results_ct rfl _ _ _ 41 _ (0, 0) _ rfl (S.out.at_ 1 rfl) Tryd.underlying41 rfl (by kernel_rfl)) rfl ⟨_, rfl, S.out.now.2, S.out.below⟩
 · rw [if_neg h]
   have h' : (ownsE [a, b] != 0) = true := bne_iff_ne.mpr h
   have HX : Aside0 (Good a ∧ Good b → True) := ⟨fun _ => trivial⟩
   clear h fa fb
   go_enter Tryd.func26, Tryd.ntmps26
   go_wp2_with (first | ((with_reducible refine gate_box rfl ?_); refine ev_box S ?_; clear S; intro _ _ S) | ((with_reducible refine gate_new rfl ?_); refine ev_new S 41 zA ?_; clear S; intro _ _ S) | ((with_reducible refine gate_load rfl ?_); refine ev_load S ?_) | ((with_reducible refine gate_lit rfl ?_); refine ev_lit S (opA a (.slice A a.f3.length c) ++ opA b (.slice B b.f3.length d)) 2 ?_; clear S; intro _ _ S) | (go_at_call 55; (with_reducible refine (owns_any [a, b] _ _ (GW.below HG.out S.out.below) (runC_box2 (S.out.at_ 0 rfl) (HA.out.below S.out.below) (HB.out.below S.out.below)) HF.out HLE.out).mono ?_); rintro e_ w7 ⟨rfl, hb⟩; replace S := Aside0.mk (S.out.step hb); clear hb) | ((with_reducible refine gate_st rfl ?_); refine ev_store S ?_; clear S; intro _ S))
   exact bodyPost_ret (results_ct rfl _ _ _ 41 zA (0, 0) _ rfl (S.out.at_ 1 rfl) Tryd.underlying41 rfl (by kernel_rfl)) rfl ⟨.slice none 0 0, rfl, opR_nil _ _, S.out.below⟩
set_option maxRecDepth 100000 in
set_option maxHeartbeats 4000000 in
theorem Exclude_any (a b : S41) (va vb : Value) (w : World) (hG : GW w) (ha : OpC w va a) (hb : OpC w vb b) (fa : fineOp a) (fb : fineOp b) :
 Calls Tryd.prog 58 #[.agg (opA a va), .agg (opA b vb)] w (RetOp w (wrap1 a b (excE a b))) := by
 obtain ⟨A, c, rfl, h1, h2⟩ := ha
 obtain ⟨B, d, rfl, h3, h4⟩ := hb
 have S := Aside0.mk (St.init w (F := fun _ => True) (fun _ _ => trivial))
 have HA := Aside0.mk (opC_mk h1 h2); have HB := Aside0.mk (opC_mk h3 h4)
 have HG := Aside0.mk hG
 have HF := Aside0.mk (show ∀ x ∈ [a, b], fineOp x by intro x hx; simp only [List.mem_cons, List.not_mem_nil, or_false] at hx; rcases hx with rfl | rfl <;> assumption)
 have HLE := Aside0.mk (show [a, b].length ≤ 1048576 by simp)
 unfold wrap1
 clear h1 h2 h3 h4 hG
 by_cases h : ownsE [a, b] = 0
 · rw [if_pos h]
   have HX := Aside0.mk (owns_goods h fa fb)
   have h' : (ownsE [a, b] != 0) = false := bne_eq_false_iff_eq.mpr h
   clear h fa fb
   go_enter Tryd.func58, Tryd.ntmps58
   go_wp2_with (first | ((with_reducible refine gate_box rfl ?_); refine ev_box S ?_; clear S; intro _ _ S) | ((with_reducible refine gate_new rfl ?_); refine ev_new S 41 zA ?_; clear S; intro _ _ S) | ((with_reducible refine gate_load rfl ?_); refine ev_load S ?_) | ((with_reducible refine gate_lit rfl ?_); refine ev_lit S (opA a (.slice A a.f3.length c) ++ opA b (.slice B b.f3.length d)) 2 ?_; clear S; intro _ _ S) | (go_at_call 55; (with_reducible refine (owns_any [a, b] _ _ (GW.below HG.out S.out.below) (runC_box2 (S.out.at_ 0 rfl) (HA.out.below S.out.below) (HB.out.below S.out.below)) HF.out HLE.out).mono ?_); rintro e_ w7 ⟨rfl, hb⟩; replace S := Aside0.mk (S.out.step hb); clear hb) | ((with_reducible refine gate_st rfl ?_); refine ev_store S ?_; clear S; intro _ S) | (go_at_call 75; (with_reducible refine (excE_prog a b _ _ _ (GW.below HG.out S.out.below) (HA.out.below S.out.below) (HB.out.below S.out.below) HX.out.1 HX.out.2).mono ?_); rintro e_ w7 ⟨v, rfl, hR, hb⟩; obtain ⟨Ai, ci, rfl⟩ := hR.slice; replace S := Aside0.mk (S.out.addOp hb hR); clear hb hR))
   exact bodyPost_ret (results_ct rfl _ _ _ 41 _ (0, 0) _ rfl (S.out.at_ 1 rfl) Tryd.underlying41 rfl (by kernel_rfl)) rfl ⟨_, rfl, S.out.now.2, S.out.below⟩
 · rw [if_neg h]
   have h' : (ownsE [a, b] != 0) = true := bne_iff_ne.mpr h
   have HX : Aside0 (Good a ∧ Good b → True) := ⟨fun _ => trivial⟩
   clear h fa fb
   go_enter Tryd.func58, Tryd.ntmps58
   go_wp2_with (first | ((with_reducible refine gate_box rfl ?_); refine ev_box S ?_; clear S; intro _ _ S) | ((with_reducible refine gate_new rfl ?_); refine ev_new S 41 zA ?_; clear S; intro _ _ S) | ((with_reducible refine gate_load rfl ?_); refine ev_load S ?_) | ((with_reducible refine gate_lit rfl ?_); refine ev_lit S (opA a (.slice A a.f3.length c) ++ opA b (.slice B b.f3.length d)) 2 ?_; clear S; intro _ _ S) | (go_at_call 55; (with_reducible refine (owns_any [a, b] _ _ (GW.below HG.out S.out.below) (runC_box2 (S.out.at_ 0 rfl) (HA.out.below S.out.below) (HB.out.below S.out.below)) HF.out HLE.out).mono ?_); rintro e_ w7 ⟨rfl, hb⟩; replace S := Aside0.mk (S.out.step hb); clear hb) | ((with_reducible refine gate_st rfl ?_); refine ev_store S ?_; clear S; intro _ S))
   exact bodyPost_ret (results_ct rfl _ _ _ 41 zA (0, 0) _ rfl (S.out.at_ 1 rfl) Tryd.underlying41 rfl (by kernel_rfl)) rfl ⟨.slice none 0 0, rfl, opR_nil _ _, S.out.below⟩
set_option maxRecDepth 100000 in
set_option maxHeartbeats 4000000 in
theorem Transpose_any (a b : S41) (va vb : Value) (w : World) (hG : GW w) (ha : OpC w va a) (hb : OpC w vb b) (fa : fineOp a) (fb : fineOp b) :
 Calls Tryd.prog 59 #[.agg (opA a va), .agg (opA b vb)] w (RetOp2 w (wrap2 a b (trE a b))) := by
 obtain ⟨A, c, rfl, h1, h2⟩ := ha
 obtain ⟨B, d, rfl, h3, h4⟩ := hb
 have S := Aside0.mk (St.init w (F := fun _ => True) (fun _ _ => trivial))
 have HA := Aside0.mk (opC_mk h1 h2); have HB := Aside0.mk (opC_mk h3 h4)
 have HG := Aside0.mk hG
 have HF := Aside0.mk (show ∀ x ∈ [a, b], fineOp x by intro x hx; simp only [List.mem_cons, List.not_mem_nil, or_false] at hx; rcases hx with rfl | rfl <;> assumption)
 have HLE := Aside0.mk (show [a, b].length ≤ 1048576 by simp)
 unfold wrap2
 clear h1 h2 h3 h4 hG
 by_cases h : ownsE [a, b] = 0
 · rw [if_pos h]
   have HX := Aside0.mk (owns_goods h fa fb)
   have h' : (ownsE [a, b] != 0) = false := bne_eq_false_iff_eq.mpr h
   clear h fa fb
   go_enter Tryd.func59, Tryd.ntmps59
   go_wp2_with (first | ((with_reducible refine gate_box rfl ?_); refine ev_box S ?_; clear S; intro _ _ S) | ((with_reducible refine gate_new rfl ?_); refine ev_new S 41 zA ?_; clear S; intro _ _ S) | ((with_reducible refine gate_load rfl ?_); refine ev_load S ?_) | ((with_reducible refine gate_lit rfl ?_); refine ev_lit S (opA a (.slice A a.f3.length c) ++ opA b (.slice B b.f3.length d)) 2 ?_; clear S; intro _ _ S) | (go_at_call 55; (with_reducible refine (owns_any [a, b] _ _ (GW.below HG.out S.out.below) (runC_box2 (S.out.at_ 0 rfl) (HA.out.below S.out.below) (HB.out.below S.out.below)) HF.out HLE.out).mono ?_); rintro e_ w7 ⟨rfl, hb⟩; replace S := Aside0.mk (S.out.step hb); clear hb) | ((with_reducible refine gate_st rfl ?_); refine ev_store S ?_; clear S; intro _ S) | (go_at_call 62; (with_reducible refine (trE_prog a b _ _ _ (GW.below HG.out S.out.below) (HA.out.below S.out.below) (HB.out.below S.out.below) HX.out.1 HX.out.2).mono ?_); rintro e_ w7 ⟨v, v2, rfl, hR, hR2, hb⟩; obtain ⟨Ai, ci, rfl⟩ := hR.slice; obtain ⟨Aj, cj, rfl⟩ := hR2.slice; replace S := Aside0.mk (S.out.addR2 hb hR hR2); clear hb hR hR2))
   exact bodyPost_ret (results_cct rfl _ _ _ _ 41 41 _ _ (0, 0) (0, 0) _ _ rfl (S.out.at_ 2 rfl) Tryd.underlying41 rfl (by kernel_rfl) rfl (S.out.at_ 1 rfl) Tryd.underlying41 rfl (by kernel_rfl)) rfl ⟨_, _, rfl, S.out.now.1.2, S.out.now.2, S.out.below⟩
 · rw [if_neg h]
   have h' : (ownsE [a, b] != 0) = true := bne_iff_ne.mpr h
   have HX : Aside0 (Good a ∧ Good b → True) := ⟨fun _ => trivial⟩
   clear h fa fb
   go_enter Tryd.func59, Tryd.ntmps59
   go_wp2_with (first | ((with_reducible refine gate_box rfl ?_); refine ev_box S ?_; clear S; intro _ _ S) | ((with_reducible refine gate_new rfl ?_); refine ev_new S 41 zA ?_; clear S; intro _ _ S) | ((with_reducible refine gate_load rfl ?_); refine ev_load S ?_) | ((with_reducible refine gate_lit rfl ?_); refine ev_lit S (opA a (.slice A a.f3.length c) ++ opA b (.slice B b.f3.length d)) 2 ?_; clear S; intro _ _ S) | (go_at_call 55; (with_reducible refine (owns_any [a, b] _ _ (GW.below HG.out S.out.below) (runC_box2 (S.out.at_ 0 rfl) (HA.out.below S.out.below) (HB.out.below S.out.below)) HF.out HLE.out).mono ?_); rintro e_ w7 ⟨rfl, hb⟩; replace S := Aside0.mk (S.out.step hb); clear hb) | ((with_reducible refine gate_st rfl ?_); refine ev_store S ?_; clear S; intro _ S))
   exact bodyPost_ret (results_cct rfl _ _ _ _ 41 41 zA zA (0, 0) (0, 0) _ _ rfl (S.out.at_ 2 rfl) Tryd.underlying41 rfl (by kernel_rfl) rfl (S.out.at_ 1 rfl) Tryd.underlying41 rfl (by kernel_rfl)) rfl ⟨.slice none 0 0, .slice none 0 0, rfl, opR_nil _ _, opR_nil _ _, S.out.below⟩
end Go.Proofs.YtloccjkcmlkifaaDoor
end

section
/- What the document finds ahead of an insert of ranges behind it: as span.Back. -/
namespace Go.Proofs.YtloccjkcmlkifaaDoor
open Go.RowKit Go.Proofs.YtloccjkcmlkifaaDoor.PAll Go.Proofs.YtloccjkcmlkifaaDoorW.PrintWords

theorem am0 (k : Nat) (lo hi : Int) (h : 0 ≤ lo ∧ lo < hi ∧ hi ≤ 2097152) : redraftref05_among.f (k + 2) ctx0 0 lo hi = some [⟨lo, hi⟩] := by
 unfold redraftref05_among.f
 rw [show redraftref05_among.l0 (k + 2) ctx0 0 lo hi [] 0 0 = _ from am_step (k + 1) ctx0 0 lo hi 0 [] 0 (by simp) (by simp) ⟨0, 0, 2097152⟩ rfl (by simp; omega) (by simp)]
 have m1 : mx lo 0 = lo := by unfold mx; split <;> omega
 have m2 : mn hi 2097152 = hi := by unfold mn; split <;> omega
 rw [if_pos ⟨rfl, by show (0 : Int) < hi; omega, by show lo < 2097152; omega⟩]
 simp only [m1, m2]
 rw [redraftref05_among.l0, if_neg (by simp)]
 simp
theorem am2 (k : Nat) (lo hi : Int) (h : 0 ≤ lo ∧ lo ≤ 2097152 ∧ 0 ≤ hi ∧ hi ≤ 2097152) : redraftref05_among.f (k + 2) ctx0 2 lo hi = some [] := by
 unfold redraftref05_among.f
 rw [show redraftref05_among.l0 (k + 2) ctx0 2 lo hi [] 0 0 = _ from am_step (k + 1) ctx0 2 lo hi 0 [] 0 (by simp) (by simp) ⟨0, 0, 2097152⟩ rfl (by simp; omega) (by simp)]
 rw [if_neg (fun q => absurd q.1 (by simp)), redraftref05_among.l0, if_neg (by simp)]
section
variable (row : List S154) (l : List S94)
theorem fd_in (k i : Nat) (out : List S94) (s0 e f t : Int) (st : Int) (hi : i < l.length) (hl : l.length ≤ 1048576) (r : S94) (hr : l.getD i z94 = r) (nx : Int)
 (hb : 0 ≤ s0 ∧ s0 ≤ r.f0 ∧ r.f0 < r.f1 ∧ r.f1 ≤ 1048576 ∧ r.f0 < e ∧ r.f1 ≤ e ∧ 0 ≤ f ∧ f ≤ s0) (ho : out.length ≤ 1048576) :
 redraftref05_found.l1 (k + 4) row ctx0 l out s0 nx st e (i : Int) 0 f t = redraftref05_found.l1 (k + 2) row ctx0 l (out ++ [⟨r.f0 + f - s0, r.f1 + f - s0⟩]) s0 ((i + 1 : Nat) : Int) st e ((i + 1 : Nat) : Int) 0 f t := by
 obtain ⟨b1, b2, b3, b4, b5, b6, b7, b8⟩ := hb
 have e1 : rd_T94 l (i : Int) = r := by unfold rd_T94; rw [Int.toNat_natCast, hr]
 have q1 : (i : Int) < (l.length : Int) := by omega
 have q2 : (0 : Int) ≤ (i : Int) := by omega
 have m1 : mx r.f0 s0 = r.f0 := by unfold mx; split <;> omega
 have m2 : mn r.f1 e = r.f1 := by unfold mn; split <;> omega
 have w1 : wrap64 (wrap64 (f + r.f0) - s0) = r.f0 + f - s0 := by rw [wrap_id (n := f + r.f0) (by omega) (by omega), wrap_id (by omega) (by omega)]; omega
 have w2 : wrap64 (wrap64 (f + r.f1) - s0) = r.f1 + f - s0 := by rw [wrap_id (n := f + r.f1) (by omega) (by omega), wrap_id (by omega) (by omega)]; omega
 have w3 : wrap64 ((i : Int) + 1) = ((i + 1 : Nat) : Int) := by rw [wrap_id (by omega) (by omega)]; omega
 have q3 : out.length + 1 < 8796093022208 := by omega
 have am := am0 k (r.f0 + f - s0) (r.f1 + f - s0) (by omega)
 rw [show k + 4 = (k + 3) + 1 from rfl, redraftref05_found.l1, if_pos q1, if_pos q2, e1, decide_eq_true b5, show k + 3 = (k + 2) + 1 from rfl, redraftref05_found.j2, if_pos rfl, if_pos q2, if_pos q1, e1, m1, m2, w1, w2, am]
 simp only [Option.bind_some]
 rw [if_neg (by simp), if_pos (by simpa using q3)]
 show (if r.f1 > e then _ else _) = _
 rw [if_neg (by omega), w3]
theorem fd_break (k i : Nat) (out : List S94) (s0 e f t : Int) (st : Int) (hi : i < l.length) (_hl : l.length ≤ 1048576) (r : S94) (hr : l.getD i z94 = r) (nx : Int)
 (hb : 0 ≤ s0 ∧ s0 ≤ r.f0 ∧ r.f0 < r.f1 ∧ r.f1 ≤ 1048576 ∧ r.f0 < e ∧ e < r.f1 ∧ 0 ≤ f ∧ f ≤ s0) (ho : out.length ≤ 1048576) :
 redraftref05_found.l1 (k + 4) row ctx0 l out s0 nx st e (i : Int) 0 f t = redraftref05_found.l0 (k + 2) row ctx0 l (out ++ [⟨r.f0 + f - s0, e + f - s0⟩]) e nx (wrap64 (st + 1)) := by
 obtain ⟨b1, b2, b3, b4, b5, b6, b7, b8⟩ := hb
 have e1 : rd_T94 l (i : Int) = r := by unfold rd_T94; rw [Int.toNat_natCast, hr]
 have q1 : (i : Int) < (l.length : Int) := by omega
 have q2 : (0 : Int) ≤ (i : Int) := by omega
 have m1 : mx r.f0 s0 = r.f0 := by unfold mx; split <;> omega
 have m2 : mn r.f1 e = e := by unfold mn; split <;> omega
 have w1 : wrap64 (wrap64 (f + r.f0) - s0) = r.f0 + f - s0 := by rw [wrap_id (n := f + r.f0) (by omega) (by omega), wrap_id (by omega) (by omega)]; omega
 have w2 : wrap64 (wrap64 (f + e) - s0) = e + f - s0 := by rw [wrap_id (n := f + e) (by omega) (by omega), wrap_id (by omega) (by omega)]; omega
 have q3 : out.length + 1 < 8796093022208 := by omega
 have am := am0 k (r.f0 + f - s0) (e + f - s0) (by omega)
 rw [show k + 4 = (k + 3) + 1 from rfl, redraftref05_found.l1, if_pos q1, if_pos q2, e1, decide_eq_true b5, show k + 3 = (k + 2) + 1 from rfl, redraftref05_found.j2, if_pos rfl, if_pos q2, if_pos q1, e1, m1, m2, w1, w2, am]
 simp only [Option.bind_some]
 rw [if_neg (by simp), if_pos (by simpa using q3)]
 show (if r.f1 > e then _ else _) = _
 rw [if_pos (by omega)]
theorem fd_hit (k i : Nat) (out : List S94) (s0 e t : Int) (st : Int) (hi : i < l.length) (_hl : l.length ≤ 1048576) (r : S94) (hr : l.getD i z94 = r) (nx : Int)
 (hb : 0 ≤ s0 ∧ s0 ≤ 1048576 ∧ 0 ≤ r.f0 ∧ r.f0 < r.f1 ∧ r.f1 ≤ 1048576 ∧ r.f0 < e ∧ s0 < r.f1 ∧ s0 ≤ e ∧ e ≤ 2097152) :
 redraftref05_found.l1 (k + 4) row ctx0 l out s0 nx st e (i : Int) 2 0 t = some ([], 23) := by
 obtain ⟨b1, b2, b3, b4, b5, b6, b7, b8, b9⟩ := hb
 have e1 : rd_T94 l (i : Int) = r := by unfold rd_T94; rw [Int.toNat_natCast, hr]
 have q1 : (i : Int) < (l.length : Int) := by omega
 have q2 : (0 : Int) ≤ (i : Int) := by omega
 have bx : s0 ≤ mx r.f0 s0 ∧ mx r.f0 s0 ≤ 1048576 := by unfold mx; split <;> omega
 have bn : s0 ≤ mn r.f1 e ∧ mn r.f1 e ≤ 2097152 := by unfold mn; split <;> omega
 have w1 : wrap64 (wrap64 (0 + mx r.f0 s0) - s0) = mx r.f0 s0 - s0 := by rw [wrap_id (n := 0 + mx r.f0 s0) (by omega) (by omega), wrap_id (by omega) (by omega)]; omega
 have w2 : wrap64 (wrap64 (0 + mn r.f1 e) - s0) = mn r.f1 e - s0 := by rw [wrap_id (n := 0 + mn r.f1 e) (by omega) (by omega), wrap_id (by omega) (by omega)]; omega
 have am := am2 k (mx r.f0 s0 - s0) (mn r.f1 e - s0) (by omega)
 rw [show k + 4 = (k + 3) + 1 from rfl, redraftref05_found.l1, if_pos q1, if_pos q2, e1, decide_eq_true b6, show k + 3 = (k + 2) + 1 from rfl, redraftref05_found.j2, if_pos rfl, if_pos q2, if_pos q1, e1, w1, w2, am]
 simp only [Option.bind_some]
 rw [if_pos (by simp)]
theorem fd_out (k i : Nat) (out : List S94) (s0 e who f t : Int) (st : Int) (nx : Int) (h : i < l.length → e ≤ (l.getD i z94).f0) :
 redraftref05_found.l1 (k + 2) row ctx0 l out s0 nx st e (i : Int) who f t = redraftref05_found.l0 k row ctx0 l out e nx (wrap64 (st + 1)) := by
 have e1 : rd_T94 l (i : Int) = l.getD i z94 := by unfold rd_T94; rw [Int.toNat_natCast]
 by_cases hi : i < l.length
 · have q1 : (i : Int) < (l.length : Int) := by omega
   rw [show k + 2 = (k + 1) + 1 from rfl, redraftref05_found.l1, if_pos q1, if_pos (by omega), e1, decide_eq_false (by have := h hi; omega), redraftref05_found.j2, if_neg (by simp)]
 · rw [show k + 2 = (k + 1) + 1 from rfl, redraftref05_found.l1, if_neg (by omega), redraftref05_found.j2, if_neg (by simp)]
theorem fd_next (k : Nat) (st : Nat) (out : List S94) (s0 nx : Int) (hst : st < row.length) (s : S154) (hs : row.getD st z154 = s) (hb : 0 ≤ s0 ∧ s0 ≤ 16777216 ∧ 0 ≤ s.f1 ∧ s.f1 ≤ 16777216 ∧ 0 ≤ s.f2 ∧ s.f2 ≤ 16777216) :
 redraftref05_found.l0 (k + 1) row ctx0 l out s0 nx (st : Int) = redraftref05_found.l1 k row ctx0 l out s0 nx (st : Int) (s0 + s.f2 - s.f1) nx s.f0 s.f1 s.f2 := by
 obtain ⟨b1, b2, b3, b4, b5, b6⟩ := hb
 have e1 : rd_T154 row (st : Int) = s := by unfold rd_T154; rw [Int.toNat_natCast, hs]
 have w : wrap64 (wrap64 (s0 + s.f2) - s.f1) = s0 + s.f2 - s.f1 := by rw [wrap_id (n := s0 + s.f2) (by omega) (by omega), wrap_id (by omega) (by omega)]
 rw [redraftref05_found.l0, if_pos (by omega), if_pos (by omega), e1, w]
end
theorem hits_far (p n : Int) : ∀ {l : List S94} {x : Int}, Nrm x l → p + n ≤ x + 1 → hits p n l = false
 | [], _, _, _ => rfl
 | r :: t, x, h, hx => by
  have h1 := h.1
  have h2 := h.2.1
  have := hits_far p n (l := t) h.2.2.2 (by omega)
  unfold hits at this ⊢
  rw [List.any_cons, this, decide_eq_false (by omega)]
  rfl
theorem hits_cons (p n : Int) (r : S94) (t : List S94) : hits p n (r :: t) = (decide (p < r.f1 ∧ r.f0 < p + n) || hits p n t) := rfl
theorem wk_mv (p n : Int) (hn : 1 ≤ n) : ∀ {l : List S94} {x : Int}, Nrm x l → hits p n l = false → Wk (l.map (mv p n))
 | [], _, _, _ => trivial
 | [r], x, h, hh => by
  show (mv p n r).f0 < (mv p n r).f1
  have := h.2.1
  unfold mv; split
  · exact this
  · show r.f0 - n < r.f1 - n; omega
 | r :: s :: t, x, h, hh => by
  rw [hits_cons, Bool.or_eq_false_iff] at hh
  have ih := wk_mv p n hn (l := s :: t) h.2.2.2 hh.2
  have h2 := h.2.1
  have h3 := h.2.2.2.1
  have h4 := h.2.2.2.2.1
  have hs := hh.2
  rw [hits_cons, Bool.or_eq_false_iff] at hs
  have q1 := of_decide_eq_false hh.1
  have q2 := of_decide_eq_false hs.1
  refine ⟨?_, ?_, ih⟩
  · unfold mv; split
    · exact h2
    · show r.f0 - n < r.f1 - n; omega
  · unfold mv
    by_cases c1 : r.f1 ≤ p
    · rw [if_pos c1]
      by_cases c2 : s.f1 ≤ p
      · rw [if_pos c2]; omega
      · rw [if_neg c2]; show r.f1 ≤ s.f0 - n; omega
    · rw [if_neg c1, if_neg (by omega)]; show r.f1 - n ≤ s.f0 - n; omega
theorem getD_drop (l : List S94) (i : Nat) (h : i < l.length) : l.drop i = l.getD i z94 :: l.drop (i + 1) := by
 rw [List.drop_eq_getElem_cons h, List.getD_eq_getElem?_getD, List.getElem?_eq_getElem h]; rfl
section
variable (l : List S94) (p n : Int) (hp : 0 ≤ p ∧ p ≤ 1048576) (hn : 1 ≤ n ∧ n ≤ 1048576) (hL : l.length ≤ 32768) (R : List S94) (K : Nat)
include hp hn hL
theorem fd3 (row : List S154) (q : Nat) (hq : q + 1 = row.length) (hq2 : q ≤ 100) (hR : ∀ k, K ≤ k → redraftref02_Places.f k (l.map (mv p n)) = some R) :
 ∀ (d k i : Nat) (out : List S94) (x : Int), l.length = i + d → p + n ≤ x + 1 → Nrm x (l.drop i) → out ++ (l.drop i).map (mv p n) = l.map (mv p n) → out.length ≤ i + 1 → K + 2 * d + 10 ≤ k →
 redraftref05_found.l1 k row ctx0 l out (p + n) (i : Int) (q : Int) (2097152 + n) (i : Int) 0 p 2097152 = some (R, 0) := by
 intro d
 induction d with
 | zero =>
  intro k i out x h1 hx hN ho hol hk
  obtain ⟨k, rfl⟩ : ∃ m, k = m + 3 := ⟨k - 3, by omega⟩
  rw [List.drop_eq_nil_of_le (by omega)] at ho
  have ho' : out = l.map (mv p n) := by simpa using ho
  have hk' : K ≤ k := by omega
  have g1 : ¬ ((q + 1 : Nat) : Int) < (row.length : Int) := by omega
  have g2 : i < l.length → 2097152 + n ≤ (l.getD i z94).f0 := fun h => by omega
  have w : wrap64 ((q : Int) + 1) = ((q + 1 : Nat) : Int) := by clear ho hol hk hR; rw [wrap_id (by omega) (by omega)]; omega
  rw [show k + 3 = (k + 1) + 2 from rfl, fd_out row l (k + 1) i out _ _ _ _ _ _ _ g2, redraftref05_found.l0, w, if_neg g1, ho', hR k hk']
  rfl
 | succ d ih =>
  intro k i out x h1 hx hN ho hol hk
  obtain ⟨k, rfl⟩ : ∃ m, k = m + 4 := ⟨k - 4, by omega⟩
  have hi : i < l.length := by omega
  have hd := getD_drop l i hi
  obtain ⟨r, hr⟩ : ∃ r, r = l.getD i z94 := ⟨_, rfl⟩
  rw [← hr] at hd
  rw [hd] at hN ho
  obtain ⟨b1, b2, b3, b4⟩ := hN
  have hm : mv p n r = ⟨r.f0 + p - (p + n), r.f1 + p - (p + n)⟩ := by
   unfold mv
   rw [if_neg (by omega), show r.f0 + p - (p + n) = r.f0 - n by omega, show r.f1 + p - (p + n) = r.f1 - n by omega]
  have g0 : 0 ≤ p + n ∧ p + n ≤ r.f0 ∧ r.f0 < r.f1 ∧ r.f1 ≤ 1048576 ∧ r.f0 < 2097152 + n ∧ r.f1 ≤ 2097152 + n ∧ 0 ≤ p ∧ p ≤ p + n := by omega
  have g1 : l.length = (i + 1) + d := by omega
  have g2 : p + n ≤ r.f1 + 1 := by omega
  have g3 : (out ++ [(⟨r.f0 + p - (p + n), r.f1 + p - (p + n)⟩ : S94)]).length ≤ (i + 1) + 1 := by simp; omega
  have g4 : K + 2 * d + 10 ≤ k + 2 := by omega
  have g5 : l.length ≤ 1048576 := by omega
  have g6 : out.length ≤ 1048576 := by omega
  rw [fd_in row l k i out (p + n) (2097152 + n) p 2097152 q hi g5 r hr.symm _ g0 g6]
  exact ih (k + 2) (i + 1) _ r.f1 g1 g2 b4 (by rw [← ho, ← hm, List.map_cons]; simp) g3 g4
variable (hpn : p + n ≤ 1048576)
include hpn
theorem fd2 (row : List S154) (q : Nat) (hq : q + 2 = row.length) (hq2 : q ≤ 90) (hrow : row.getD (q + 1) z154 = ⟨0, p, 2097152⟩) (hR : hits p n l = false → ∀ k, K ≤ k → redraftref02_Places.f k (l.map (mv p n)) = some R)
 (k i : Nat) (out : List S94) (x : Int) (h1 : i ≤ l.length) (hx : -1 ≤ x) (hN : Nrm x (l.drop i)) (hpi : i < l.length → p < (l.getD i z94).f1) (hpre : hits p n (l.drop i) = false → hits p n l = false ∧ out ++ (l.drop i).map (mv p n) = l.map (mv p n)) (hol : out.length ≤ i + 1) (hk : K + 2 * l.length + 20 ≤ k) :
 redraftref05_found.l1 k row ctx0 l out p (i : Int) (q : Int) (p + n) (i : Int) 2 0 n = some (if hits p n (l.drop i) = true then ([], 23) else (R, 0)) := by
 obtain ⟨k, rfl⟩ : ∃ m, k = m + 4 := ⟨k - 4, by omega⟩
 by_cases c : i < l.length ∧ (l.getD i z94).f0 < p + n
 · obtain ⟨hi, c⟩ := c
   have hd := getD_drop l i hi
   have hN' := hN
   rw [hd] at hN'
   have b := hpi hi
   have b1 := hN'.1
   have b2 := hN'.2.1
   have b3 := hN'.2.2.1
   have hh : hits p n (l.drop i) = true := by rw [hd, hits_cons, decide_eq_true ⟨b, c⟩]; rfl
   rw [if_pos hh]
   exact fd_hit row l k i out p (p + n) n q hi (by omega) _ rfl _ (by omega)
 · have hfar : hits p n (l.drop i) = false := by
    by_cases hi : i < l.length
    · have hd := getD_drop l i hi
      have c' : p + n ≤ (l.getD i z94).f0 := by have := fun h => c ⟨hi, h⟩; omega
      rw [hd] at hN ⊢
      exact hits_far p n (x := (l.getD i z94).f0 - 1) ⟨by omega, hN.2⟩ (by omega)
    · rw [List.drop_eq_nil_of_le (by omega)]; rfl
   obtain ⟨hl, ho⟩ := hpre hfar
   have hN3 : ∃ x', p + n ≤ x' + 1 ∧ Nrm x' (l.drop i) := by
    by_cases hi : i < l.length
    · have hd := getD_drop l i hi
      have c' : p + n ≤ (l.getD i z94).f0 := by have := fun h => c ⟨hi, h⟩; omega
      rw [hd] at hN ⊢
      exact ⟨(l.getD i z94).f0 - 1, by omega, by show (l.getD i z94).f0 - 1 < (l.getD i z94).f0; omega, hN.2⟩
    · rw [List.drop_eq_nil_of_le (by omega)]; exact ⟨p + n, by omega, trivial⟩
   obtain ⟨x', hx', hN'⟩ := hN3
   have g1 : q + 1 < row.length := by omega
   have g2 : q + 1 + 1 = row.length := by omega
   have g3 : q + 1 ≤ 100 := by omega
   have g4 : l.length = i + (l.length - i) := by omega
   have g5 : K + 2 * (l.length - i) + 10 ≤ k + 1 := by omega
   have g6 : 0 ≤ p + n ∧ p + n ≤ 16777216 ∧ 0 ≤ p ∧ p ≤ 16777216 ∧ (0 : Int) ≤ 2097152 ∧ (2097152 : Int) ≤ 16777216 := by omega
   have g7 : i < l.length → p + n ≤ (l.getD i z94).f0 := fun h => by have := fun q => c ⟨h, q⟩; omega
   have e : p + n + 2097152 - p = 2097152 + n := by omega
   have e3 := fd3 l p n hp hn hL R K row (q + 1) g2 g3 (hR hl) (l.length - i) (k + 1) i out x' g4 hx' hN' ho hol g5
   have e0 := fd_next row l (k + 1) (q + 1) out (p + n) i g1 _ hrow g6
   simp only [e] at e0
   have w : wrap64 ((q : Int) + 1) = ((q + 1 : Nat) : Int) := by clear hol hk hR g5 g4; rw [wrap_id (by omega) (by omega)]; omega
   rw [if_neg (by rw [hfar]; simp), show k + 4 = (k + 2) + 2 from rfl, fd_out row l (k + 2) i out _ _ _ _ _ _ _ g7, w]
   exact e0.trans e3
theorem fd12 (row : List S154) (hrow : row = [⟨0, 0, p⟩, ⟨2, 0, n⟩, ⟨0, p, 2097152⟩]) (hR : hits p n l = false → ∀ k, K ≤ k → redraftref02_Places.f k (l.map (mv p n)) = some R)
 (k i : Nat) (out : List S94) (x : Int) (h1 : i ≤ l.length) (hx : -1 ≤ x) (hN : Nrm x (l.drop i)) (hpi : i < l.length → p < (l.getD i z94).f1) (hpre : hits p n (l.drop i) = false → hits p n l = false ∧ out ++ (l.drop i).map (mv p n) = l.map (mv p n)) (hol : out.length ≤ i + 1) (hk : K + 2 * l.length + 30 ≤ k) :
 redraftref05_found.l0 k row ctx0 l out p (i : Int) (wrap64 (0 + 1)) = some (if hits p n (l.drop i) = true then ([], 23) else (R, 0)) := by
 obtain ⟨k, rfl⟩ : ∃ m, k = m + 1 := ⟨k - 1, by omega⟩
 have hlen : row.length = 3 := by rw [hrow]; rfl
 have hg1 : row.getD 1 z154 = ⟨2, 0, n⟩ := by rw [hrow]; rfl
 have hg2 : row.getD (1 + 1) z154 = ⟨0, p, 2097152⟩ := by rw [hrow]; rfl
 have hk' : K + 2 * l.length + 20 ≤ k := by omega
 have hq : 1 + 2 = row.length := by omega
 have h1l : 1 < row.length := by omega
 have hb : 0 ≤ p ∧ p ≤ 16777216 ∧ (0 : Int) ≤ 0 ∧ (0 : Int) ≤ 16777216 ∧ 0 ≤ n ∧ n ≤ 16777216 := by omega
 have e2 := fd2 l p n hp hn hL R K hpn row 1 hq (by decide) hg2 hR k i out x h1 hx hN hpi hpre hol hk'
 have e0 := fd_next row l k 1 out p i h1l ⟨2, 0, n⟩ hg1 hb
 have e : p + n - 0 = p + n := by omega
 simp only [e] at e0
 have w : wrap64 ((0 : Int) + 1) = ((1 : Nat) : Int) := by rw [wrap_id (by omega) (by omega)]; rfl
 rw [w]
 exact e0.trans e2
theorem fd1 (row : List S154) (hrow : row = [⟨0, 0, p⟩, ⟨2, 0, n⟩, ⟨0, p, 2097152⟩]) (hR : hits p n l = false → ∀ k, K ≤ k → redraftref02_Places.f k (l.map (mv p n)) = some R) :
 ∀ (d k i : Nat) (out : List S94) (x : Int), l.length = i + d → -1 ≤ x → Nrm x (l.drop i) → (hits p n (l.drop i) = false → hits p n l = false) → out ++ (l.drop i).map (mv p n) = l.map (mv p n) → out.length ≤ i → K + 2 * l.length + 2 * d + 40 ≤ k →
 redraftref05_found.l1 k row ctx0 l out 0 (i : Int) 0 p (i : Int) 0 0 p = some (if hits p n (l.drop i) = true then ([], 23) else (R, 0)) := by
 have next := fd12 l p n hp hn hL R K hpn row hrow hR
 clear hrow hR
 intro d
 induction d with
 | zero =>
  intro k i out x h1 hx hN hpre ho hol hk
  obtain ⟨k, rfl⟩ : ∃ m, k = m + 2 := ⟨k - 2, by omega⟩
  rw [fd_out row l k i out _ _ _ _ _ _ _ (fun h => by omega)]
  exact next k i out x (by omega) hx hN (fun h => by omega) (fun h => ⟨hpre h, ho⟩) (by omega) (by omega)
 | succ d ih =>
  intro k i out x h1 hx hN hpre ho hol hk
  have hi : i < l.length := by omega
  have hd := getD_drop l i hi
  obtain ⟨r, hr⟩ : ∃ r, r = l.getD i z94 := ⟨_, rfl⟩
  rw [← hr] at hd
  have hN' := hN
  rw [hd] at hN'
  obtain ⟨b1, b2, b3, b4⟩ := hN'
  have g5 : l.length ≤ 1048576 := by omega
  have g6 : out.length ≤ 1048576 := by omega
  by_cases c1 : r.f0 < p
  · obtain ⟨k, rfl⟩ : ∃ m, k = m + 4 := ⟨k - 4, by omega⟩
    by_cases c2 : r.f1 ≤ p
    · have hm : mv p n r = ⟨r.f0 + 0 - 0, r.f1 + 0 - 0⟩ := by
       unfold mv
       rw [if_pos c2, show r.f0 + 0 - 0 = r.f0 by omega, show r.f1 + 0 - 0 = r.f1 by omega]
      have hh : hits p n (l.drop i) = hits p n (l.drop (i + 1)) := by
       rw [hd, hits_cons, decide_eq_false (by omega)]; rfl
      have g0 : 0 ≤ (0 : Int) ∧ 0 ≤ r.f0 ∧ r.f0 < r.f1 ∧ r.f1 ≤ 1048576 ∧ r.f0 < p ∧ r.f1 ≤ p ∧ 0 ≤ (0 : Int) ∧ (0 : Int) ≤ 0 := by omega
      have g1 : l.length = (i + 1) + d := by omega
      have g2 : -1 ≤ r.f1 := by omega
      have g3 : (out ++ [(⟨r.f0 + 0 - 0, r.f1 + 0 - 0⟩ : S94)]).length ≤ i + 1 := by simp; omega
      have g4 : K + 2 * l.length + 2 * d + 40 ≤ k + 2 := by omega
      rw [fd_in row l k i out 0 p 0 p 0 hi g5 r hr.symm _ g0 g6, hh]
      exact ih (k + 2) (i + 1) _ r.f1 g1 g2 b4 (by rw [← hh]; exact hpre) (by rw [← ho, ← hm, hd, List.map_cons]; simp) g3 g4
    · have g0 : 0 ≤ (0 : Int) ∧ 0 ≤ r.f0 ∧ r.f0 < r.f1 ∧ r.f1 ≤ 1048576 ∧ r.f0 < p ∧ p < r.f1 ∧ 0 ≤ (0 : Int) ∧ (0 : Int) ≤ 0 := by omega
      have hh : hits p n (l.drop i) = true := by rw [hd, hits_cons, decide_eq_true (by omega)]; rfl
      rw [fd_break row l k i out 0 p 0 p 0 hi g5 r hr.symm _ g0 g6]
      exact next (k + 2) i _ x (by omega) hx hN (fun _ => by rw [← hr]; omega) (fun h => by rw [hh] at h; simp at h) (by simp; omega) (by omega)
  · obtain ⟨k, rfl⟩ : ∃ m, k = m + 2 := ⟨k - 2, by omega⟩
    rw [fd_out row l k i out _ _ _ _ _ _ _ (fun h => by rw [← hr]; omega)]
    exact next k i out x (by omega) hx hN (fun _ => by rw [← hr]; omega) (fun h => ⟨hpre h, ho⟩) (by omega) (by omega)
end
theorem found_back (l : List S94) (p n : Int) (hl : (rngE l).2 = 0) (hp : 0 ≤ p ∧ p ≤ 1048576) (hn : 1 ≤ n ∧ n ≤ 1048576) (hpn : p + n ≤ 1048576) :
 ∃ k, redraftref05_found.f k (ctxWith 2 p n) ctx0 l = some (if hits p n l = true then ([], 23) else (bkS p n l, 0)) := by
 obtain ⟨hlen, hN⟩ := rng_ok hl
 have hpl : ∃ K, hits p n l = false → ∀ k, K ≤ k → redraftref02_Places.f k (l.map (mv p n)) = some (bkS p n l) := by
  cases hh : hits p n l with
  | true => exact ⟨0, fun h => by simp at h⟩
  | false =>
   obtain ⟨K, hK⟩ := places_is (l.map (mv p n)) (wk_mv p n hn.1 hN hh) (by simp; omega)
   exact ⟨K, fun _ => hK⟩
 obtain ⟨K, hK⟩ := hpl
 refine ⟨K + 4 * l.length + 60, ?_⟩
 unfold redraftref05_found.f
 rw [show K + 4 * l.length + 60 = (K + 4 * l.length + 59) + 1 from rfl]
 by_cases h0 : 0 < p
 · have hc : ctxWith 2 p n = [⟨0, 0, p⟩, ⟨2, 0, n⟩, ⟨0, p, 2097152⟩] := by unfold ctxWith; rw [if_pos h0]; rfl
   have e0 := fd_next (ctxWith 2 p n) l (K + 4 * l.length + 59) 0 [] 0 0 (by rw [hc]; simp) ⟨0, 0, p⟩ (by rw [hc]; rfl) (by simp; omega)
   have e1 := fd1 l p n hp hn hlen (bkS p n l) K hpn (ctxWith 2 p n) hc hK l.length (K + 4 * l.length + 59) 0 [] (-1) (by omega) (by omega) (by simpa using hN) (fun h => by simpa using h) (by simp) (by simp) (by omega)
   have e2 : (0 : Int) + p - 0 = p := by omega
   refine e0.trans ?_
   show redraftref05_found.l1 _ _ _ _ _ 0 0 ((0 : Nat) : Int) (0 + p - 0) 0 0 0 p = _
   rw [e2]
   refine e1.trans ?_
   rw [List.drop_zero]
 · have hp0 : p = 0 := by omega
   have hc : ctxWith 2 p n = [⟨2, 0, n⟩, ⟨0, p, 2097152⟩] := by unfold ctxWith; rw [if_neg (by omega)]; rfl
   have e0 := fd_next (ctxWith 2 p n) l (K + 4 * l.length + 59) 0 [] 0 0 (by rw [hc]; simp) ⟨2, 0, n⟩ (by rw [hc]; rfl) (by simp; omega)
   have e1 := fd2 l p n hp hn hlen (bkS p n l) K hpn (ctxWith 2 p n) 0 (by rw [hc]; rfl) (by omega) (by rw [hc]; rfl) hK (K + 4 * l.length + 59) 0 [] (-1) (by omega) (by omega) (by simpa using hN) (fun h => by
    have hd := getD_drop l 0 h
    rw [List.drop_zero] at hd
    rw [hd] at hN
    have := hN.1; have := hN.2.1; omega) (fun h => ⟨by simpa using h, by simp⟩) (by simp) (by omega)
   have e2 : (0 : Int) + n - 0 = p + n := by omega
   refine e0.trans ?_
   show redraftref05_found.l1 _ _ _ _ _ 0 0 ((0 : Nat) : Int) (0 + n - 0) 0 2 0 n = _
   rw [e2]
   rw [show redraftref05_found.l1 (K + 4 * l.length + 59) (ctxWith 2 p n) ctx0 l [] 0 0 ((0 : Nat) : Int) (p + n) 0 2 0 n = redraftref05_found.l1 (K + 4 * l.length + 59) (ctxWith 2 p n) ctx0 l [] p ((0 : Nat) : Int) ((0 : Nat) : Int) (p + n) ((0 : Nat) : Int) 2 0 n by rw [hp0]; rfl]
   refine e1.trans ?_
   rw [List.drop_zero]
end Go.Proofs.YtloccjkcmlkifaaDoor
end

section
/- The document's rows of stretches: a stretch put in, its place, whether it is whole: as plain lists. -/
namespace Go.Proofs.YtloccjkcmlkifaaDoor
open Go.RowKit Go.Proofs.YtloccjkcmlkifaaDoor.PAll Go.Proofs.YtloccjkcmlkifaaDoorW.PrintWords

def Bd (s : S154) : Prop := 0 ≤ s.f1 ∧ s.f1 ≤ s.f2 ∧ s.f2 ≤ 4194304
def wst (who x m : Int) (s : S154) (s0 : Int) : List S154 :=
 if s0 ≤ x ∧ x < s0 + (s.f2 - s.f1) then (if s0 < x then [⟨s.f0, s.f1, s.f1 + x - s0⟩] else []) ++ [⟨who, 0, m⟩, ⟨s.f0, s.f1 + x - s0, s.f2⟩] else [s]
def withL (who x m : Int) : List S154 → Int → List S154
 | [], _ => []
 | s :: t, s0 => wst who x m s s0 ++ withL who x m t (s0 + s.f2 - s.f1)
theorem wst_len (who x m : Int) (s : S154) (s0 : Int) : (wst who x m s s0).length ≤ 3 := by
 unfold wst
 split
 · split <;> simp
 · simp
theorem dropS (row : List S154) (i : Nat) (h : i < row.length) : row.drop i = row.getD i z154 :: row.drop (i + 1) := by
 rw [List.drop_eq_getElem_cons h, List.getD_eq_getElem?_getD, List.getElem?_eq_getElem h]; rfl
theorem with_loop (row : List S154) (who x m : Int) (hx : 0 ≤ x ∧ x ≤ 4194304) (hl : row.length ≤ 100) (hB : ∀ s ∈ row, Bd s) : ∀ (d k i : Nat) (out : List S154) (s0 : Int), row.length = i + d → 0 ≤ s0 → s0 ≤ 4194304 * i → out.length ≤ 3 * i → 2 * d + 1 ≤ k →
 redraftref05_with.l0 k row who x m out s0 (i : Int) = some (out ++ withL who x m (row.drop i) s0) := by
 intro d
 induction d with
 | zero =>
  intro k i out s0 h1 h2 h3 h4 hk
  obtain ⟨k, rfl⟩ : ∃ m, k = m + 1 := ⟨k - 1, by omega⟩
  rw [redraftref05_with.l0, if_neg (by omega), List.drop_eq_nil_of_le (by omega)]
  simp [withL]
 | succ d ih =>
  intro k i out s0 h1 h2 h3 h4 hk
  obtain ⟨k, rfl⟩ : ∃ m, k = m + 2 := ⟨k - 2, by omega⟩
  have hi : i < row.length := by omega
  have hd := dropS row i hi
  have hm : row.getD i z154 ∈ row := by rw [List.getD_eq_getElem?_getD, List.getElem?_eq_getElem hi]; exact List.getElem_mem hi
  obtain ⟨s, hs⟩ : ∃ s, s = row.getD i z154 := ⟨_, rfl⟩
  rw [← hs] at hd hm
  obtain ⟨b1, b2, b3⟩ := hB s hm
  have e1 : rd_T154 row (i : Int) = s := by unfold rd_T154; rw [Int.toNat_natCast, hs]
  have q1 : (i : Int) < (row.length : Int) := by omega
  have q2 : (0 : Int) ≤ (i : Int) := by omega
  have q3 : s0 ≤ 419430400 := by omega
  clear hB hm hs
  have g0 : row.length = (i + 1) + d := by omega
  have g1 : 0 ≤ s0 + (s.f2 - s.f1) := by omega
  have g2 : s0 + (s.f2 - s.f1) ≤ 4194304 * ((i + 1 : Nat) : Int) := by omega
  have g3 : 2 * d + 1 ≤ k := by omega
  have hw := wst_len who x m s s0
  have hfl : out.length + (wst who x m s s0).length ≤ 3 * (i + 1) := by omega
  have ho0 : out.length < 5864062014805 := by omega
  have ho1 : out.length + 1 < 5864062014805 := by omega
  have ho2 : out.length + 1 + 1 < 5864062014805 := by omega
  have e2 : s0 + s.f2 - s.f1 = s0 + (s.f2 - s.f1) := by omega
  obtain ⟨w1, w2, w3, w4⟩ : wrap64 (s.f2 - s.f1) = s.f2 - s.f1 ∧ wrap64 (s0 + (s.f2 - s.f1)) = s0 + (s.f2 - s.f1) ∧ wrap64 ((i : Int) + 1) = ((i + 1 : Nat) : Int) ∧ wrap64 (wrap64 (s.f1 + x) - s0) = s.f1 + x - s0 := by
   clear ih hk h4 hfl hw ho0 ho1 ho2 g0 g3
   refine ⟨wrap_id (by omega) (by omega), wrap_id (by omega) (by omega), by rw [wrap_id (by omega) (by omega)]; omega, by rw [wrap_id (n := s.f1 + x) (by omega) (by omega), wrap_id (by omega) (by omega)]⟩
  rw [hd, show withL who x m (s :: row.drop (i + 1)) s0 = wst who x m s s0 ++ withL who x m (row.drop (i + 1)) (s0 + s.f2 - s.f1) from rfl, e2, ← List.append_assoc]
  have fin : ∀ out', out' = out ++ wst who x m s s0 → redraftref05_with.l0 k row who x m out' (s0 + (s.f2 - s.f1)) ((i + 1 : Nat) : Int) = some (out ++ wst who x m s s0 ++ withL who x m (row.drop (i + 1)) (s0 + (s.f2 - s.f1))) := fun out' e => by
   rw [← e]
   exact ih k (i + 1) out' _ g0 g1 g2 (by rw [e, List.length_append]; exact hfl) g3
  rw [show k + 2 = (k + 1) + 1 from rfl, redraftref05_with.l0, if_pos q1, if_pos q2, e1, w1, w2]
  by_cases c : s0 ≤ x ∧ x < s0 + (s.f2 - s.f1)
  · rw [if_pos (show x ≥ s0 from c.1), decide_eq_true c.2, redraftref05_with.j1, if_pos rfl, w4, w2, w3]
    by_cases c2 : s0 < x
    · rw [if_pos (show x > s0 from c2), if_pos ho0]
      try simp only [Option.bind_some]
      rw [if_pos (by rw [List.length_append]; exact ho1)]
      try simp only [Option.bind_some]
      rw [if_pos (by rw [List.length_append, List.length_append]; exact ho2)]
      exact fin _ (by unfold wst; rw [if_pos c, if_pos c2]; simp)
    · rw [if_neg (show ¬ x > s0 from c2), if_pos ho0]
      try simp only [Option.bind_some]
      rw [if_pos (by rw [List.length_append]; exact ho1)]
      exact fin _ (by unfold wst; rw [if_pos c, if_neg c2]; simp)
  · have hj : redraftref05_with.j1 (k + 1) row who x m out s0 (i : Int) (s.f2 - s.f1) false s.f0 s.f1 s.f2 = some (out ++ wst who x m s s0 ++ withL who x m (row.drop (i + 1)) (s0 + (s.f2 - s.f1))) := by
     rw [redraftref05_with.j1, if_neg (by simp), if_pos ho0, w2, w3]
     exact fin _ (by unfold wst; rw [if_neg c])
    by_cases c1 : s0 ≤ x
    · rw [if_pos (show x ≥ s0 from c1), decide_eq_false (fun h => c ⟨c1, h⟩), hj]
    · rw [if_neg (show ¬ x ≥ s0 from c1), hj]
theorem with_is (row : List S154) (who x m : Int) (hx : 0 ≤ x ∧ x ≤ 4194304) (hl : row.length ≤ 100) (hB : ∀ s ∈ row, Bd s) : redraftref05_with.f (2 * row.length + 1) row who x m = some (withL who x m row 0) := by
 unfold redraftref05_with.f
 exact with_loop row who x m hx hl hB row.length _ 0 [] 0 (by omega) (by omega) (by omega) (by simp) (by omega)
def placeL (who k : Int) : List S154 → Int → Int
 | [], s0 => s0
 | s :: t, s0 => if s.f0 = who ∧ s.f1 ≤ k ∧ k < s.f2 then s0 + k - s.f1 else placeL who k t (s0 + s.f2 - s.f1)
theorem place_is (row : List S154) (who x : Int) (hx : 0 ≤ x ∧ x ≤ 4194304) (hl : row.length ≤ 100) (hB : ∀ s ∈ row, Bd s) : ∀ (d k i : Nat) (s0 : Int), row.length = i + d → 0 ≤ s0 → s0 ≤ 4194304 * i → d + 1 ≤ k →
 redraftref05_place.l0 k row who x s0 (i : Int) = some (placeL who x (row.drop i) s0) := by
 intro d
 induction d with
 | zero =>
  intro k i s0 h1 h2 h3 hk
  obtain ⟨k, rfl⟩ : ∃ m, k = m + 1 := ⟨k - 1, by omega⟩
  rw [redraftref05_place.l0, if_neg (by omega), List.drop_eq_nil_of_le (by omega)]
  rfl
 | succ d ih =>
  intro k i s0 h1 h2 h3 hk
  obtain ⟨k, rfl⟩ : ∃ m, k = m + 1 := ⟨k - 1, by omega⟩
  have hi : i < row.length := by omega
  have hd := dropS row i hi
  have hm : row.getD i z154 ∈ row := by rw [List.getD_eq_getElem?_getD, List.getElem?_eq_getElem hi]; exact List.getElem_mem hi
  obtain ⟨s, hs⟩ : ∃ s, s = row.getD i z154 := ⟨_, rfl⟩
  rw [← hs] at hd hm
  obtain ⟨b1, b2, b3⟩ := hB s hm
  have e1 : rd_T154 row (i : Int) = s := by unfold rd_T154; rw [Int.toNat_natCast, hs]
  have q3 : s0 ≤ 419430400 := by omega
  clear hB hm hs
  have hih := ih k (i + 1) (s0 + s.f2 - s.f1) (by omega) (by omega) (by omega) (by omega)
  have q1 : (i : Int) < (row.length : Int) := by omega
  have q2 : (0 : Int) ≤ (i : Int) := by omega
  obtain ⟨w1, w2, w3⟩ : wrap64 (wrap64 (s0 + s.f2) - s.f1) = s0 + s.f2 - s.f1 ∧ wrap64 (wrap64 (s0 + x) - s.f1) = s0 + x - s.f1 ∧ wrap64 ((i : Int) + 1) = ((i + 1 : Nat) : Int) := by
   clear ih hih hk
   refine ⟨by rw [wrap_id (n := s0 + s.f2) (by omega) (by omega), wrap_id (by omega) (by omega)], by rw [wrap_id (n := s0 + x) (by omega) (by omega), wrap_id (by omega) (by omega)], by rw [wrap_id (by omega) (by omega)]; omega⟩
  rw [redraftref05_place.l0, if_pos q1, if_pos q2, e1, w1, w2, w3, hih, hd]
  rw [show placeL who x (s :: row.drop (i + 1)) s0 = if s.f0 = who ∧ s.f1 ≤ x ∧ x < s.f2 then s0 + x - s.f1 else placeL who x (row.drop (i + 1)) (s0 + s.f2 - s.f1) from rfl]
  by_cases c1 : s.f0 = who
  · rw [if_pos c1]
    by_cases c2 : s.f1 ≤ x
    · rw [if_pos c2]
      by_cases c3 : x < s.f2
      · rw [if_pos c3, if_pos ⟨c1, c2, c3⟩]
      · rw [if_neg c3, if_neg (fun h => c3 h.2.2)]
    · rw [if_neg c2, if_neg (fun h => c2 h.2.1)]
  · rw [if_neg c1, if_neg (fun h => c1 h.1)]
theorem whole_is (row : List S154) (who : Int) (hl : row.length ≤ 100) : ∀ (d k i : Nat) (n : Nat), row.length = i + d → n ≤ i → d + 1 ≤ k →
 redraftref05_whole.l0 k row who (n : Int) (i : Int) = some (decide (n + (row.drop i).countP (fun s => decide (s.f0 = who)) = 1)) := by
 intro d
 induction d with
 | zero =>
  intro k i n h1 h2 hk
  obtain ⟨k, rfl⟩ : ∃ m, k = m + 1 := ⟨k - 1, by omega⟩
  rw [redraftref05_whole.l0, if_neg (by omega), List.drop_eq_nil_of_le (by omega)]
  by_cases c : n = 1
  · subst c; rfl
  · rw [show ((n : Int) == 1) = false from beq_eq_false_iff_ne.mpr (by omega), decide_eq_false (by simpa using c)]
 | succ d ih =>
  intro k i n h1 h2 hk
  obtain ⟨k, rfl⟩ : ∃ m, k = m + 1 := ⟨k - 1, by omega⟩
  have hi : i < row.length := by omega
  have hd := dropS row i hi
  obtain ⟨s, hs⟩ : ∃ s, s = row.getD i z154 := ⟨_, rfl⟩
  rw [← hs] at hd
  have e1 : rd_T154 row (i : Int) = s := by unfold rd_T154; rw [Int.toNat_natCast, hs]
  have q1 : (i : Int) < (row.length : Int) := by omega
  have q2 : (0 : Int) ≤ (i : Int) := by omega
  have i1 := ih k (i + 1) (n + 1) (by omega) (by omega) (by omega)
  have i2 := ih k (i + 1) n (by omega) (by omega) (by omega)
  obtain ⟨w3, w4⟩ : wrap64 ((i : Int) + 1) = ((i + 1 : Nat) : Int) ∧ wrap64 ((n : Int) + 1) = ((n + 1 : Nat) : Int) := by
   clear ih hk i1 i2
   exact ⟨by rw [wrap_id (by omega) (by omega)]; omega, by rw [wrap_id (by omega) (by omega)]; omega⟩
  rw [redraftref05_whole.l0, if_pos q1, if_pos q2, e1, w3, w4, hd, List.countP_cons]
  clear w3 w4
  by_cases c1 : s.f0 = who
  · rw [if_pos c1, i1, decide_eq_true c1, if_pos rfl]
    congr 2
    simp only [eq_iff_iff]
    omega
  · rw [if_neg c1, i2, decide_eq_false c1, if_neg (by simp)]
    rfl
end Go.Proofs.YtloccjkcmlkifaaDoor
end

section
/- An insert put into a row that holds another: whether that one stays whole, and where this one stands without it. -/
namespace Go.Proofs.YtloccjkcmlkifaaDoor
open Go.RowKit Go.Proofs.YtloccjkcmlkifaaDoor.PAll Go.Proofs.YtloccjkcmlkifaaDoorW.PrintWords

def lastS (out : List S154) : S154 := out.getD (out.length - 1) z154
def wo (who : Int) (out : List S154) (s : S154) : List S154 :=
 if s.f0 = who then out else if 0 < out.length ∧ (lastS out).f0 = s.f0 ∧ (lastS out).f2 = s.f1 then out.set (out.length - 1) ⟨(lastS out).f0, (lastS out).f1, s.f2⟩ else out ++ [s]
theorem wo_len (who : Int) (out : List S154) (s : S154) : (wo who out s).length ≤ out.length + 1 := by
 unfold wo
 split
 · omega
 · split <;> simp
theorem without_loop (row : List S154) (who : Int) (hl : row.length ≤ 100) : ∀ (d k i : Nat) (out : List S154), row.length = i + d → out.length ≤ i → d + 1 ≤ k →
 redraftref05_without.l0 k row who out (i : Int) = some ((row.drop i).foldl (wo who) out) := by
 intro d
 induction d with
 | zero =>
  intro k i out h1 h2 hk
  obtain ⟨k, rfl⟩ : ∃ m, k = m + 1 := ⟨k - 1, by omega⟩
  rw [redraftref05_without.l0, if_neg (by omega), List.drop_eq_nil_of_le (by omega)]
  rfl
 | succ d ih =>
  intro k i out h1 h2 hk
  obtain ⟨k, rfl⟩ : ∃ m, k = m + 1 := ⟨k - 1, by omega⟩
  have hi : i < row.length := by omega
  have hd := dropS row i hi
  obtain ⟨s, hs⟩ : ∃ s, s = row.getD i z154 := ⟨_, rfl⟩
  rw [← hs] at hd
  have e1 : rd_T154 row (i : Int) = s := by unfold rd_T154; rw [Int.toNat_natCast, hs]
  have q1 : (i : Int) < (row.length : Int) := by omega
  have q2 : (0 : Int) ≤ (i : Int) := by omega
  have ho0 : out.length < 5864062014805 := by omega
  have hwl := wo_len who out s
  have hih := ih k (i + 1) (wo who out s) (by omega) (by omega) (by omega)
  have e2 : rd_T154 out ((out.length - 1 : Nat) : Int) = lastS out := by unfold rd_T154 lastS; rw [Int.toNat_natCast]
  have hpos : 0 < out.length → (out.length : Int) > 0 ∧ (0 : Int) ≤ ((out.length - 1 : Nat) : Int) ∧ ((out.length - 1 : Nat) : Int) < (out.length : Int) := fun h => by omega
  have hneg : ¬ 0 < out.length → ¬ (out.length : Int) > 0 := fun h => by omega
  have w3 : wrap64 ((i : Int) + 1) = ((i + 1 : Nat) : Int) := by clear ih hih hk hpos hneg; rw [wrap_id (by omega) (by omega)]; omega
  rw [hd, List.foldl_cons, ← hih, redraftref05_without.l0, if_pos q1, if_pos q2, e1, w3]
  unfold wo
  by_cases c0 : s.f0 = who
  · rw [if_pos c0, if_pos c0]
  rw [if_neg c0, if_neg c0]
  by_cases c1 : 0 < out.length
  · obtain ⟨r1, r2, r3⟩ := hpos c1
    have w1 : wrap64 ((out.length : Int) - 1) = ((out.length - 1 : Nat) : Int) := by clear ih hih hk w3 hpos hneg r2 r3; rw [wrap_id (by omega) (by omega)]; omega
    rw [if_pos r1, w1, if_pos r2, if_pos r3, e2, Int.toNat_natCast]
    by_cases c2 : (lastS out).f0 = s.f0
    · rw [if_pos c2]
      by_cases c3 : (lastS out).f2 = s.f1
      · rw [if_pos c3, if_pos ⟨c1, c2, c3⟩]
      · rw [if_neg c3, if_pos ho0, if_neg (fun h => c3 h.2.2)]
    · rw [if_neg c2, if_pos ho0, if_neg (fun h => c2 h.2.1)]
  · rw [if_neg (hneg c1), if_pos ho0, if_neg (fun h => c1 h.1)]
theorem without_is (row : List S154) (who : Int) (hl : row.length ≤ 100) : redraftref05_without.f (row.length + 1) row who = some (row.foldl (wo who) []) := by
 unfold redraftref05_without.f
 have := without_loop row who hl row.length (row.length + 1) 0 [] (by omega) (by simp) (by omega)
 simpa using this
theorem wst_no {who x m w f t s0 : Int} (h : x < s0 ∨ s0 + (t - f) ≤ x) : wst who x m ⟨w, f, t⟩ s0 = [⟨w, f, t⟩] := if_neg (by rintro ⟨h1, h2⟩; simp only at h2; omega)
theorem wst_at {who x m w f t s0 : Int} (h : x = s0) (h2 : f < t) : wst who x m ⟨w, f, t⟩ s0 = [⟨who, 0, m⟩, ⟨w, f, t⟩] := by
 unfold wst
 rw [if_pos ⟨by omega, by simp only; omega⟩, if_neg (by omega), show f + x - s0 = f by omega]
 rfl
theorem wst_in {who x m w f t s0 : Int} (h : s0 < x) (h2 : x < s0 + (t - f)) : wst who x m ⟨w, f, t⟩ s0 = [⟨w, f, f + x - s0⟩, ⟨who, 0, m⟩, ⟨w, f + x - s0, t⟩] := by
 unfold wst
 rw [if_pos ⟨by omega, by simp only; omega⟩, if_pos h]
 rfl
def Tells (L : List S154) (cnt : Nat) (at_ : Int) : Prop := L.length ≤ 8 ∧ L.countP (fun s => decide (s.f0 = 2)) = cnt ∧ (cnt = 1 → placeL 1 0 (L.foldl (wo 2) []) 0 = at_ ∧ ((L.foldl (wo 2) []).length ≤ 8 ∧ ∀ s ∈ L.foldl (wo 2) [], Bd s))
theorem rows_tell (p n x m : Int) (hp : 0 ≤ p ∧ p ≤ 1048576) (hn : 1 ≤ n ∧ n ≤ 1048576) (hx : 0 ≤ x ∧ x ≤ 1048576) (hm : 1 ≤ m ∧ m ≤ 1048576) (hpn : p + n ≤ 1048576) :
 (x ≤ p → Tells (withL 1 x m (ctxWith 2 p n) 0) 1 x) ∧ (p < x → x < p + n → Tells (withL 1 x m (ctxWith 2 p n) 0) 2 0) ∧ (p + n ≤ x → Tells (withL 1 x m (ctxWith 2 p n) 0) 1 (x - n)) := by
 have hm0 : (0 : Int) < m := by omega
 by_cases h0 : p > 0
 · have hc : ctxWith 2 p n = [⟨0, 0, p⟩, ⟨2, 0, n⟩, ⟨0, p, 2097152⟩] := by unfold ctxWith; rw [if_pos h0]; rfl
   have hw : withL 1 x m (ctxWith 2 p n) 0 = wst 1 x m ⟨0, 0, p⟩ 0 ++ (wst 1 x m ⟨2, 0, n⟩ p ++ (wst 1 x m ⟨0, p, 2097152⟩ (p + n) ++ [])) := by
    rw [hc]
    show wst 1 x m ⟨0, 0, p⟩ 0 ++ (wst 1 x m ⟨2, 0, n⟩ (0 + p - 0) ++ (wst 1 x m ⟨0, p, 2097152⟩ (0 + p - 0 + n - 0) ++ [])) = _
    rw [show (0 : Int) + p - 0 = p by omega, show p + n - 0 = p + n by omega]
   rw [hw]
   refine ⟨fun h => ?_, fun h1 h2 => ?_, fun h => ?_⟩
   · by_cases e : x = p
     · rw [wst_no (.inr (by omega)), wst_at e (by omega), wst_no (.inl (by omega))]
       refine ⟨by simp, by simp, fun _ => ?_⟩
       have hf : (([⟨0, 0, p⟩] : List S154) ++ (([⟨1, 0, m⟩, ⟨2, 0, n⟩] : List S154) ++ (([⟨0, p, 2097152⟩] : List S154) ++ []))).foldl (wo 2) [] = [⟨0, 0, p⟩, ⟨1, 0, m⟩, ⟨0, p, 2097152⟩] := by simp [wo, lastS]
       rw [hf]
       refine ⟨by simp [placeL, hm0]; omega, by simp, ?_⟩
       simp only [List.mem_cons, List.not_mem_nil, or_false]
       rintro s (rfl | rfl | rfl) <;> exact ⟨by simp only; omega, by simp only; omega, by simp only; omega⟩
     · by_cases e0 : x = 0
       · rw [wst_at e0 (by omega), wst_no (.inl (by omega)), wst_no (.inl (by omega))]
         refine ⟨by simp, by simp, fun _ => ?_⟩
         have hf : (([⟨1, 0, m⟩, ⟨0, 0, p⟩] : List S154) ++ (([⟨2, 0, n⟩] : List S154) ++ (([⟨0, p, 2097152⟩] : List S154) ++ []))).foldl (wo 2) [] = [⟨1, 0, m⟩, ⟨0, 0, 2097152⟩] := by simp [wo, lastS]
         rw [hf]
         refine ⟨by simp [placeL, hm0]; omega, by simp, ?_⟩
         simp only [List.mem_cons, List.not_mem_nil, or_false]
         rintro s (rfl | rfl) <;> exact ⟨by simp only; omega, by simp only; omega, by simp only; omega⟩
       · rw [wst_in (by omega) (by omega), wst_no (.inl (by omega)), wst_no (.inl (by omega)), show (0 : Int) + x - 0 = x by omega]
         refine ⟨by simp, by simp, fun _ => ?_⟩
         have hf : (([⟨0, 0, x⟩, ⟨1, 0, m⟩, ⟨0, x, p⟩] : List S154) ++ (([⟨2, 0, n⟩] : List S154) ++ (([⟨0, p, 2097152⟩] : List S154) ++ []))).foldl (wo 2) [] = [⟨0, 0, x⟩, ⟨1, 0, m⟩, ⟨0, x, 2097152⟩] := by simp [wo, lastS]
         rw [hf]
         refine ⟨by simp [placeL, hm0], by simp, ?_⟩
         simp only [List.mem_cons, List.not_mem_nil, or_false]
         rintro s (rfl | rfl | rfl) <;> exact ⟨by simp only; omega, by simp only; omega, by simp only; omega⟩
   · rw [wst_no (.inr (by omega)), wst_in h1 (by omega), wst_no (.inl (by omega))]
     exact ⟨by simp, by simp, fun h => absurd h (by decide)⟩
   · by_cases e : x = p + n
     · rw [wst_no (.inr (by omega)), wst_no (.inr (by omega)), wst_at e (by omega)]
       refine ⟨by simp, by simp, fun _ => ?_⟩
       have hf : (([⟨0, 0, p⟩] : List S154) ++ (([⟨2, 0, n⟩] : List S154) ++ (([⟨1, 0, m⟩, ⟨0, p, 2097152⟩] : List S154) ++ []))).foldl (wo 2) [] = [⟨0, 0, p⟩, ⟨1, 0, m⟩, ⟨0, p, 2097152⟩] := by simp [wo, lastS]
       rw [hf]
       refine ⟨by simp [placeL, hm0]; omega, by simp, ?_⟩
       simp only [List.mem_cons, List.not_mem_nil, or_false]
       rintro s (rfl | rfl | rfl) <;> exact ⟨by simp only; omega, by simp only; omega, by simp only; omega⟩
     · rw [wst_no (.inr (by omega)), wst_no (.inr (by omega)), wst_in (by omega) (by omega), show p + x - (p + n) = x - n by omega]
       refine ⟨by simp, by simp, fun _ => ?_⟩
       have hf : (([⟨0, 0, p⟩] : List S154) ++ (([⟨2, 0, n⟩] : List S154) ++ (([⟨0, p, x - n⟩, ⟨1, 0, m⟩, ⟨0, x - n, 2097152⟩] : List S154) ++ []))).foldl (wo 2) [] = [⟨0, 0, x - n⟩, ⟨1, 0, m⟩, ⟨0, x - n, 2097152⟩] := by simp [wo, lastS]
       rw [hf]
       refine ⟨by simp [placeL, hm0], by simp, ?_⟩
       simp only [List.mem_cons, List.not_mem_nil, or_false]
       rintro s (rfl | rfl | rfl) <;> exact ⟨by simp only; omega, by simp only; omega, by simp only; omega⟩
 · have hp0 : p = 0 := by omega
   subst hp0
   have hc : ctxWith 2 0 n = [⟨2, 0, n⟩, ⟨0, 0, 2097152⟩] := rfl
   have hw : withL 1 x m (ctxWith 2 0 n) 0 = wst 1 x m ⟨2, 0, n⟩ 0 ++ (wst 1 x m ⟨0, 0, 2097152⟩ n ++ []) := by
    rw [hc]
    show wst 1 x m ⟨2, 0, n⟩ 0 ++ (wst 1 x m ⟨0, 0, 2097152⟩ (0 + n - 0) ++ []) = _
    rw [show (0 : Int) + n - 0 = n by omega]
   rw [hw]
   refine ⟨fun h => ?_, fun h1 h2 => ?_, fun h => ?_⟩
   · rw [wst_at (by omega) (by omega), wst_no (.inl (by omega))]
     refine ⟨by simp, by simp, fun _ => ?_⟩
     have hf : (([⟨1, 0, m⟩, ⟨2, 0, n⟩] : List S154) ++ (([⟨0, 0, 2097152⟩] : List S154) ++ [])).foldl (wo 2) [] = [⟨1, 0, m⟩, ⟨0, 0, 2097152⟩] := by simp [wo, lastS]
     rw [hf]
     refine ⟨by simp [placeL, hm0]; omega, by simp, ?_⟩
     simp only [List.mem_cons, List.not_mem_nil, or_false]
     rintro s (rfl | rfl) <;> exact ⟨by simp only; omega, by simp only; omega, by simp only; omega⟩
   · rw [wst_in h1 (by omega), wst_no (.inl (by omega))]
     exact ⟨by simp, by simp, fun h => absurd h (by decide)⟩
   · by_cases e : x = n
     · rw [wst_no (.inr (by omega)), wst_at e (by omega)]
       refine ⟨by simp, by simp, fun _ => ?_⟩
       have hf : (([⟨2, 0, n⟩] : List S154) ++ (([⟨1, 0, m⟩, ⟨0, 0, 2097152⟩] : List S154) ++ [])).foldl (wo 2) [] = [⟨1, 0, m⟩, ⟨0, 0, 2097152⟩] := by simp [wo, lastS]
       rw [hf]
       refine ⟨by simp [placeL, hm0]; omega, by simp, ?_⟩
       simp only [List.mem_cons, List.not_mem_nil, or_false]
       rintro s (rfl | rfl) <;> exact ⟨by simp only; omega, by simp only; omega, by simp only; omega⟩
     · rw [wst_no (.inr (by omega)), wst_in (by omega) (by omega), show (0 : Int) + x - n = x - n by omega]
       refine ⟨by simp, by simp, fun _ => ?_⟩
       have hf : (([⟨2, 0, n⟩] : List S154) ++ (([⟨0, 0, x - n⟩, ⟨1, 0, m⟩, ⟨0, x - n, 2097152⟩] : List S154) ++ [])).foldl (wo 2) [] = [⟨0, 0, x - n⟩, ⟨1, 0, m⟩, ⟨0, x - n, 2097152⟩] := by simp [wo, lastS]
       rw [hf]
       refine ⟨by simp [placeL, hm0], by simp, ?_⟩
       simp only [List.mem_cons, List.not_mem_nil, or_false]
       rintro s (rfl | rfl | rfl) <;> exact ⟨by simp only; omega, by simp only; omega, by simp only; omega⟩
end Go.Proofs.YtloccjkcmlkifaaDoor
end
