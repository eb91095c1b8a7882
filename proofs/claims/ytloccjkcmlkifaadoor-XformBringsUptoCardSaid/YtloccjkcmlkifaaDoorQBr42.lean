/- XformBrings_card, part 42. -/
import Derived.Test.YtloccjkcmlkifaaDoorQBr41
import Derived.Test.YtloccjkcmlkifaaDoorQBr31

section
/- An insert put into a row that holds another: whether that one stays whole, and where this one stands without it. -/
namespace Go.Proofs.YtloccjkcmlkifaaDoor
open Go.RowKit Go.Proofs.YtloccjkcmlkifaaDoor.PAll Go.Proofs.YtloccjkcmlkifaaDoorW.PrintWords

def lastS (out : List S154) : S154 := out.getD (out.length - 1) z154
def wo (who : Int) (out : List S154) (s : S154) : List S154 :=
 if s.f0 = who then out else if 0 < out.length ∧ (lastS out).f0 = s.f0 ∧ (lastS out).f2 = s.f1 then out.set (out.length - 1) ⟨(lastS out).f0, (lastS out).f1, s.f2⟩ else out ++ [s]
theorem wo_len (who : Int) (out : List S154) (s : S154) : (wo who out s).length ≤ out.length + 1 := by
 unfold wo
 split
 · omega
 · split <;> simp
theorem without_loop (row : List S154) (who : Int) (hl : row.length ≤ 100) : ∀ (d k i : Nat) (out : List S154), row.length = i + d → out.length ≤ i → d + 1 ≤ k →
 redraftref05_without.l0 k row who out (i : Int) = some ((row.drop i).foldl (wo who) out) := by
 intro d
 induction d with
 | zero =>
  intro k i out h1 h2 hk
  obtain ⟨k, rfl⟩ : ∃ m, k = m + 1 := ⟨k - 1, by omega⟩
  rw [redraftref05_without.l0, if_neg (by omega), List.drop_eq_nil_of_le (by omega)]
  rfl
 | succ d ih =>
  intro k i out h1 h2 hk
  obtain ⟨k, rfl⟩ : ∃ m, k = m + 1 := ⟨k - 1, by omega⟩
  have hi : i < row.length := by omega
  have hd := dropS row i hi
  obtain ⟨s, hs⟩ : ∃ s, s = row.getD i z154 := ⟨_, rfl⟩
  rw [← hs] at hd
  have e1 : rd_T154 row (i : Int) = s := by unfold rd_T154; rw [Int.toNat_natCast, hs]
  have q1 : (i : Int) < (row.length : Int) := by omega
  have q2 : (0 : Int) ≤ (i : Int) := by omega
  have ho0 : out.length < 5864062014805 := by omega
  have hwl := wo_len who out s
  have hih := ih k (i + 1) (wo who out s) (by omega) (by omega) (by omega)
  have e2 : rd_T154 out ((out.length - 1 : Nat) : Int) = lastS out := by unfold rd_T154 lastS; rw [Int.toNat_natCast]
  have hpos : 0 < out.length → (out.length : Int) > 0 ∧ (0 : Int) ≤ ((out.length - 1 : Nat) : Int) ∧ ((out.length - 1 : Nat) : Int) < (out.length : Int) := fun h => by omega
  have hneg : ¬ 0 < out.length → ¬ (out.length : Int) > 0 := fun h => by omega
  have w3 : wrap64 ((i : Int) + 1) = ((i + 1 : Nat) : Int) := by clear ih hih hk hpos hneg; rw [wrap_id (by omega) (by omega)]; omega
  rw [hd, List.foldl_cons, ← hih, redraftref05_without.l0, if_pos q1, if_pos q2, e1, w3]
  unfold wo
  by_cases c0 : s.f0 = who
  · rw [if_pos c0, if_pos c0]
  rw [if_neg c0, if_neg c0]
  by_cases c1 : 0 < out.length
  · obtain ⟨r1, r2, r3⟩ := hpos c1
    have w1 : wrap64 ((out.length : Int) - 1) = ((out.length - 1 : Nat) : Int) := by clear ih hih hk w3 hpos hneg r2 r3; rw [wrap_id (by omega) (by omega)]; omega
    rw [if_pos r1, w1, if_pos r2, if_pos r3, e2, Int.toNat_natCast]
    by_cases c2 : (lastS out).f0 = s.f0
    · rw [if_pos c2]
      by_cases c3 : (lastS out).f2 = s.f1
      · rw [if_pos c3, if_pos ⟨c1, c2, c3⟩]
      · rw [if_neg c3, if_pos ho0, if_neg (fun h => c3 h.2.2)]
    · rw [if_neg c2, if_pos ho0, if_neg (fun h => c2 h.2.1)]
  · rw [if_neg (hneg c1), if_pos ho0, if_neg (fun h => c1 h.1)]
theorem without_is (row : List S154) (who : Int) (hl : row.length ≤ 100) : redraftref05_without.f (row.length + 1) row who = some (row.foldl (wo who) []) := by
 unfold redraftref05_without.f
 have := without_loop row who hl row.length (row.length + 1) 0 [] (by omega) (by simp) (by omega)
 simpa using this
theorem wst_no {who x m w f t s0 : Int} (h : x < s0 ∨ s0 + (t - f) ≤ x) : wst who x m ⟨w, f, t⟩ s0 = [⟨w, f, t⟩] := if_neg (by rintro ⟨h1, h2⟩; simp only at h2; omega)
theorem wst_at {who x m w f t s0 : Int} (h : x = s0) (h2 : f < t) : wst who x m ⟨w, f, t⟩ s0 = [⟨who, 0, m⟩, ⟨w, f, t⟩] := by
 unfold wst
 rw [if_pos ⟨by omega, by simp only; omega⟩, if_neg (by omega), show f + x - s0 = f by omega]
 rfl
theorem wst_in {who x m w f t s0 : Int} (h : s0 < x) (h2 : x < s0 + (t - f)) : wst who x m ⟨w, f, t⟩ s0 = [⟨w, f, f + x - s0⟩, ⟨who, 0, m⟩, ⟨w, f + x - s0, t⟩] := by
 unfold wst
 rw [if_pos ⟨by omega, by simp only; omega⟩, if_pos h]
 rfl
def Tells (L : List S154) (cnt : Nat) (at_ : Int) : Prop := L.length ≤ 8 ∧ L.countP (fun s => decide (s.f0 = 2)) = cnt ∧ (cnt = 1 → placeL 1 0 (L.foldl (wo 2) []) 0 = at_ ∧ ((L.foldl (wo 2) []).length ≤ 8 ∧ ∀ s ∈ L.foldl (wo 2) [], Bd s))
theorem rows_tell (p n x m : Int) (hp : 0 ≤ p ∧ p ≤ 1048576) (hn : 1 ≤ n ∧ n ≤ 1048576) (hx : 0 ≤ x ∧ x ≤ 1048576) (hm : 1 ≤ m ∧ m ≤ 1048576) (hpn : p + n ≤ 1048576) :
 (x ≤ p → Tells (withL 1 x m (ctxWith 2 p n) 0) 1 x) ∧ (p < x → x < p + n → Tells (withL 1 x m (ctxWith 2 p n) 0) 2 0) ∧ (p + n ≤ x → Tells (withL 1 x m (ctxWith 2 p n) 0) 1 (x - n)) := by
 have hm0 : (0 : Int) < m := by omega
 by_cases h0 : p > 0
 · have hc : ctxWith 2 p n = [⟨0, 0, p⟩, ⟨2, 0, n⟩, ⟨0, p, 2097152⟩] := by unfold ctxWith; rw [if_pos h0]; rfl
   have hw : withL 1 x m (ctxWith 2 p n) 0 = wst 1 x m ⟨0, 0, p⟩ 0 ++ (wst 1 x m ⟨2, 0, n⟩ p ++ (wst 1 x m ⟨0, p, 2097152⟩ (p + n) ++ [])) := by
    rw [hc]
    show wst 1 x m ⟨0, 0, p⟩ 0 ++ (wst 1 x m ⟨2, 0, n⟩ (0 + p - 0) ++ (wst 1 x m ⟨0, p, 2097152⟩ (0 + p - 0 + n - 0) ++ [])) = _
    rw [show (0 : Int) + p - 0 = p by omega, show p + n - 0 = p + n by omega]
   rw [hw]
   refine ⟨fun h => ?_, fun h1 h2 => ?_, fun h => ?_⟩
   · by_cases e : x = p
     · rw [wst_no (.inr (by omega)), wst_at e (by omega), wst_no (.inl (by omega))]
       refine ⟨by simp, by simp, fun _ => ?_⟩
       have hf : (([⟨0, 0, p⟩] : List S154) ++ (([⟨1, 0, m⟩, ⟨2, 0, n⟩] : List S154) ++ (([⟨0, p, 2097152⟩] : List S154) ++ []))).foldl (wo 2) [] = [⟨0, 0, p⟩, ⟨1, 0, m⟩, ⟨0, p, 2097152⟩] := by simp [wo, lastS]
       rw [hf]
       refine ⟨by simp [placeL, hm0]; omega, by simp, ?_⟩
       simp only [List.mem_cons, List.not_mem_nil, or_false]
       rintro s (rfl | rfl | rfl) <;> exact ⟨by simp only; omega, by simp only; omega, by simp only; omega⟩
     · by_cases e0 : x = 0
       · rw [wst_at e0 (by omega), wst_no (.inl (by omega)), wst_no (.inl (by omega))]
         refine ⟨by simp, by simp, fun _ => ?_⟩
         have hf : (([⟨1, 0, m⟩, ⟨0, 0, p⟩] : List S154) ++ (([⟨2, 0, n⟩] : List S154) ++ (([⟨0, p, 2097152⟩] : List S154) ++ []))).foldl (wo 2) [] = [⟨1, 0, m⟩, ⟨0, 0, 2097152⟩] := by simp [wo, lastS]
         rw [hf]
         refine ⟨by simp [placeL, hm0]; omega, by simp, ?_⟩
         simp only [List.mem_cons, List.not_mem_nil, or_false]
         rintro s (rfl | rfl) <;> exact ⟨by simp only; omega, by simp only; omega, by simp only; omega⟩
       · rw [wst_in (by omega) (by omega), wst_no (.inl (by omega)), wst_no (.inl (by omega)), show (0 : Int) + x - 0 = x by omega]
         refine ⟨by simp, by simp, fun _ => ?_⟩
         have hf : (([⟨0, 0, x⟩, ⟨1, 0, m⟩, ⟨0, x, p⟩] : List S154) ++ (([⟨2, 0, n⟩] : List S154) ++ (([⟨0, p, 2097152⟩] : List S154) ++ []))).foldl (wo 2) [] = [⟨0, 0, x⟩, ⟨1, 0, m⟩, ⟨0, x, 2097152⟩] := by simp [wo, lastS]
         rw [hf]
         refine ⟨by simp [placeL, hm0], by simp, ?_⟩
         simp only [List.mem_cons, List.not_mem_nil, or_false]
         rintro s (rfl | rfl | rfl) <;> exact ⟨by simp only; omega, by simp only; omega, by simp only; omega⟩
   · rw [wst_no (.inr (by omega)), wst_in h1 (by omega), wst_no (.inl (by omega))]
     exact ⟨by simp, by simp, fun h => absurd h (by decide)⟩
   · by_cases e : x = p + n
     · rw [wst_no (.inr (by omega)), wst_no (.inr (by omega)), wst_at e (by omega)]
       refine ⟨by simp, by simp, fun _ => ?_⟩
       have hf : (([⟨0, 0, p⟩] : List S154) ++ (([⟨2, 0, n⟩] : List S154) ++ (([⟨1, 0, m⟩, ⟨0, p, 2097152⟩] : List S154) ++ []))).foldl (wo 2) [] = [⟨0, 0, p⟩, ⟨1, 0, m⟩, ⟨0, p, 2097152⟩] := by simp [wo, lastS]
       rw [hf]
       refine ⟨by simp [placeL, hm0]; omega, by simp, ?_⟩
       simp only [List.mem_cons, List.not_mem_nil, or_false]
       rintro s (rfl | rfl | rfl) <;> exact ⟨by simp only; omega, by simp only; omega, by simp only; omega⟩
     · rw [wst_no (.inr (by omega)), wst_no (.inr (by omega)), wst_in (by omega) (by omega), show p + x - (p + n) = x - n by omega]
       refine ⟨by simp, by simp, fun _ => ?_⟩
       have hf : (([⟨0, 0, p⟩] : List S154) ++ (([⟨2, 0, n⟩] : List S154) ++ (([⟨0, p, x - n⟩, ⟨1, 0, m⟩, ⟨0, x - n, 2097152⟩] : List S154) ++ []))).foldl (wo 2) [] = [⟨0, 0, x - n⟩, ⟨1, 0, m⟩, ⟨0, x - n, 2097152⟩] := by simp [wo, lastS]
       rw [hf]
       refine ⟨by simp [placeL, hm0], by simp, ?_⟩
       simp only [List.mem_cons, List.not_mem_nil, or_false]
       rintro s (rfl | rfl | rfl) <;> exact ⟨by simp only; omega, by simp only; omega, by simp only; omega⟩
 · have hp0 : p = 0 := by omega
   subst hp0
   have hc : ctxWith 2 0 n = [⟨2, 0, n⟩, ⟨0, 0, 2097152⟩] := rfl
   have hw : withL 1 x m (ctxWith 2 0 n) 0 = wst 1 x m ⟨2, 0, n⟩ 0 ++ (wst 1 x m ⟨0, 0, 2097152⟩ n ++ []) := by
    rw [hc]
    show wst 1 x m ⟨2, 0, n⟩ 0 ++ (wst 1 x m ⟨0, 0, 2097152⟩ (0 + n - 0) ++ []) = _
    rw [show (0 : Int) + n - 0 = n by omega]
   rw [hw]
   refine ⟨fun h => ?_, fun h1 h2 => ?_, fun h => ?_⟩
   · rw [wst_at (by omega) (by omega), wst_no (.inl (by omega))]
     refine ⟨by simp, by simp, fun _ => ?_⟩
     have hf : (([⟨1, 0, m⟩, ⟨2, 0, n⟩] : List S154) ++ (([⟨0, 0, 2097152⟩] : List S154) ++ [])).foldl (wo 2) [] = [⟨1, 0, m⟩, ⟨0, 0, 2097152⟩] := by simp [wo, lastS]
     rw [hf]
     refine ⟨by simp [placeL, hm0]; omega, by simp, ?_⟩
     simp only [List.mem_cons, List.not_mem_nil, or_false]
     rintro s (rfl | rfl) <;> exact ⟨by simp only; omega, by simp only; omega, by simp only; omega⟩
   · rw [wst_in h1 (by omega), wst_no (.inl (by omega))]
     exact ⟨by simp, by simp, fun h => absurd h (by decide)⟩
   · by_cases e : x = n
     · rw [wst_no (.inr (by omega)), wst_at e (by omega)]
       refine ⟨by simp, by simp, fun _ => ?_⟩
       have hf : (([⟨2, 0, n⟩] : List S154) ++ (([⟨1, 0, m⟩, ⟨0, 0, 2097152⟩] : List S154) ++ [])).foldl (wo 2) [] = [⟨1, 0, m⟩, ⟨0, 0, 2097152⟩] := by simp [wo, lastS]
       rw [hf]
       refine ⟨by simp [placeL, hm0]; omega, by simp, ?_⟩
       simp only [List.mem_cons, List.not_mem_nil, or_false]
       rintro s (rfl | rfl) <;> exact ⟨by simp only; omega, by simp only; omega, by simp only; omega⟩
     · rw [wst_no (.inr (by omega)), wst_in (by omega) (by omega), show (0 : Int) + x - n = x - n by omega]
       refine ⟨by simp, by simp, fun _ => ?_⟩
       have hf : (([⟨2, 0, n⟩] : List S154) ++ (([⟨0, 0, x - n⟩, ⟨1, 0, m⟩, ⟨0, x - n, 2097152⟩] : List S154) ++ [])).foldl (wo 2) [] = [⟨0, 0, x - n⟩, ⟨1, 0, m⟩, ⟨0, x - n, 2097152⟩] := by simp [wo, lastS]
       rw [hf]
       refine ⟨by simp [placeL, hm0], by simp, ?_⟩
       simp only [List.mem_cons, List.not_mem_nil, or_false]
       rintro s (rfl | rfl | rfl) <;> exact ⟨by simp only; omega, by simp only; omega, by simp only; omega⟩
end Go.Proofs.YtloccjkcmlkifaaDoor
end

section
/- The document's exclude answers as the program's. -/
namespace Go.Proofs.YtloccjkcmlkifaaDoor
open Go.RowKit Go.Proofs.YtloccjkcmlkifaaDoor.PAll Go.Proofs.YtloccjkcmlkifaaDoorW.PrintWords Go.Proofs.YtloccjkcmlkifaaDoorW.PrintLast

theorem fold_jn_hi (B : Int) : ∀ (l out : List S94), (∀ x ∈ out, x.f1 ≤ B) → (∀ x ∈ l, x.f1 ≤ B) → ∀ x ∈ l.foldl jn out, x.f1 ≤ B
 | [], _, h, _ => h
 | r :: t, out, h, hl => by
  rw [List.foldl_cons]
  refine fold_jn_hi B t (jn out r) (fun x hx => ?_) (fun x hx => hl x (by simp [hx]))
  have hr := hl r (by simp)
  unfold jn at hx
  split at hx
  · rcases List.mem_or_eq_of_mem_set hx with hx | rfl
    · exact h x hx
    · exact hr
  · rcases List.mem_append.1 hx with hx | hx
    · exact h x hx
    · obtain rfl : x = r := by simpa using hx
      exact hr
theorem nrm_hi : ∀ {l : List S94} {x : Int}, Nrm x l → ∀ r ∈ l, r.f1 ≤ 1048576
 | _ :: _, _, h, r, hr => by
  rcases List.mem_cons.1 hr with rfl | hr
  · exact h.2.2.1
  · exact nrm_hi h.2.2.2 r hr
theorem cov_bk {a : S41} (p n : Int) (hl : (rngE a.f3).2 = 0) (hn : 1 ≤ n) : covE a (bkS p n a.f3) = (⟨a.f0, a.f1, a.f2, bkS p n a.f3, a.f4, a.f5⟩, 0) := by
 obtain ⟨hlen, hN⟩ := rng_ok hl
 have h1 : (bkS p n a.f3).length ≤ 32768 := by
  have := fold_jn_len (a.f3.map (mv p n)) []
  simp at this
  unfold bkS; omega
 have h2 : ∀ x ∈ bkS p n a.f3, x.f1 ≤ 1048576 := fold_jn_hi 1048576 _ [] (by simp) (fun x hx => by
  obtain ⟨r, hr, rfl⟩ := List.mem_map.1 hx
  have := nrm_hi hN r hr
  unfold mv; split
  · exact this
  · show r.f1 - n ≤ 1048576; omega)
 unfold covE
 rw [if_neg (show ¬ (0 < (bkS p n a.f3).length ∧ 1048576 < lastHi (bkS p n a.f3)) from fun ⟨q1, q2⟩ => by
  have hm : (bkS p n a.f3).getD ((bkS p n a.f3).length - 1) z94 ∈ bkS p n a.f3 := by
   rw [List.getD_eq_getElem?_getD, List.getElem?_eq_getElem (by omega)]; exact List.getElem_mem _
  have := h2 _ hm
  unfold lastHi at q2; omega), if_neg (by omega)]
theorem whole_any (row : List S154) (vr : Value) (who : Int) (r : Bool) (w : World) (hl : row.length ≤ 100) (hr : RowC w vr row) (h : decide (row.countP (fun s => decide (s.f0 = who)) = 1) = r) :
 Calls Tryd.prog 112 #[vr, .int .i64 who] w fun e w' => e = .returned (.bool r) ∧ Below w.heap.size w w' := by
 obtain ⟨A, c, rfl, h1, h2⟩ := hr
 refine (redraftref05_whole.calls (row.length + 1) A c row who r w h2 h1 ?_).mono fun e w' ⟨he, hb⟩ => ⟨he, hb.below⟩
 unfold redraftref05_whole.f
 have := whole_is row who hl row.length (row.length + 1) 0 0 (by omega) (by omega) (by omega)
 rw [← h]
 simpa using this
theorem without_any (row : List S154) (vr : Value) (who : Int) (w : World) (hl : row.length ≤ 100) (hr : RowC w vr row) :
 Calls Tryd.prog 113 #[vr, .int .i64 who] w fun e w' => ∃ v, e = .returned v ∧ Kd.R k154 154 w' w.heap.size (fun _ => True) v (row.foldl (wo who) []) ∧ Below w.heap.size w w' := by
 obtain ⟨A, c, rfl, h1, h2⟩ := hr
 exact redraftref05_without.calls (row.length + 1) A c row who _ w h2 h1 (without_is row who hl)
attribute [local go_sem high] eqA35 idx35_0 idx35_1
set_option maxRecDepth 100000 in
set_option maxHeartbeats 8000000 in
theorem excE_ref (a b : S41) (va vb : Value) (w : World) (ha : OpC w va a) (hb : OpC w vb b) (ga : Good a) (gb : Good b) :
 Calls Tryd.prog 97 #[.agg (opA a va), .agg (opA b vb)] w (RetOp w (excE a b)) := by
 obtain ⟨A, c, rfl, h1, h2⟩ := ha
 obtain ⟨B, d, rfl, h3, h4⟩ := hb
 have S := Aside0.mk (St.init w (F := fun _ => True) (fun _ _ => trivial))
 have H1 := Aside0.mk h1; have H2 := Aside0.mk h2
 have HA := Aside0.mk (opC_mk h1 h2); have HB := Aside0.mk (opC_mk h3 h4)
 have HF := Aside0.mk (show fineOp a ∧ fineOp b ∧ ownE a = 0 ∧ ownE b = 0 from ⟨ga.fine, gb.fine, ga.own, gb.own⟩)
 have HGA := Aside0.mk ga; have HGB := Aside0.mk gb
 have hsta := (own_ok ga.own).2.2.2.2.2.2
 obtain ⟨tg, htg⟩ : ∃ tg, decide (a.f4.f0 = b.f0.f0.f0 ∧ a.f4.f1 = b.f0.f0.f1 ∧ (a.f4.f0 ≠ 0 ∨ a.f4.f1 ≠ 0)) = tg := ⟨_, rfl⟩
 have HTG := Aside0.mk htg
 have hkind := ga.kind
 clear h1 h2 h3 h4 ga gb
 unfold excE
 by_cases hcl : clashB a b = true
 · rw [if_pos hcl]
   have HC := Aside0.mk hcl
   clear hcl hsta htg hkind
   go_enter Tryd.func97, Tryd.ntmps97
   go_wp2_with (first | ((with_reducible refine gate_box rfl ?_); refine ev_box S ?_; clear S; intro _ _ S) | ((with_reducible refine gate_new rfl ?_); refine ev_new S 41 zA ?_; clear S; intro _ _ S) | ((with_reducible refine gate_load rfl ?_); first | refine ev_load S ?_ | refine ev_fld S ?_) | ((with_reducible refine gate_st rfl ?_); refine ev_store S ?_; clear S; intro _ S) | (go_at_call 108; (with_reducible refine (isC_any a b _ _ HC.out).mono ?_); rintro e w7 ⟨rfl, hb⟩; replace S := Aside0.mk (S.out.step hb); clear hb))
   exact bodyPost_ret (results_ct rfl _ _ _ 41 zA (0, 0) _ rfl (S.out.at_ 0 rfl) Tryd.underlying41 rfl (by kernel_rfl)) rfl ⟨.slice none 0 0, rfl, opR_nil _ _, S.out.below⟩
 rw [if_neg hcl]
 have HC : Aside0 (clashB a b = false) := ⟨by simpa using hcl⟩
 clear hcl
 by_cases k4 : a.f0.f1 = 4
 · rw [if_pos k4]
   have k4' : (a.f0.f1 == 4) = true := beq_iff_eq.mpr k4
   have hs := hsta k4
   have hnz : a.f4.f0 ≠ 0 := by
    intro hz
    unfold staE isID at hs
    rw [if_neg (by rintro ⟨q, _⟩; have := of_decide_eq_true q; omega)] at hs
    exact absurd hs (by decide)
   have hat : aimB a b = tg := by
    rw [← htg]
    unfold aimB
    by_cases p1 : a.f4.f0 = b.f0.f0.f0 <;> by_cases p2 : a.f4.f1 = b.f0.f0.f1 <;> simp [p1, p2]
    rw [← p1]; exact .inl hnz
   rw [hat]
   clear hsta htg hkind k4 hs hnz hat
   cases tg with
   | true =>
    rw [if_pos rfl]
    go_enter Tryd.func97, Tryd.ntmps97
    go_wp2_with (first | ((with_reducible refine gate_box rfl ?_); refine ev_box S ?_; clear S; intro _ _ S) | ((with_reducible refine gate_new rfl ?_); refine ev_new S 41 zA ?_; clear S; intro _ _ S) | ((with_reducible refine gate_load rfl ?_); first | refine ev_load S ?_ | refine ev_fld S ?_) | ((with_reducible refine gate_st rfl ?_); refine ev_store S ?_; clear S; intro _ S) | (go_at_call 108; (with_reducible refine (isC_any a b _ _ HC.out).mono ?_); rintro e w7 ⟨rfl, hb⟩; replace S := Aside0.mk (S.out.step hb); clear hb) | (go_at_call 108; (with_reducible refine (is_any a.f4.f0 a.f4.f1 b.f0.f0.f0 b.f0.f0.f1 _ _ HTG.out).mono ?_); rintro e w7 ⟨rfl, hb⟩; replace S := Aside0.mk (S.out.step hb); clear hb))
    exact bodyPost_ret (results_ct rfl _ _ _ 41 zA (0, 0) _ rfl (S.out.at_ 0 rfl) Tryd.underlying41 rfl (by kernel_rfl)) rfl ⟨.slice none 0 0, rfl, opR_nil _ _, S.out.below⟩
   | false =>
    rw [if_neg (by simp)]
    by_cases hk : b.f0.f1 = 1
    · have hk' : (b.f0.f1 != 1) = false := bne_eq_false_iff_eq.mpr hk
      clear hk
      go_enter Tryd.func97, Tryd.ntmps97
      go_wp2_with (first | ((with_reducible refine gate_box rfl ?_); refine ev_box S ?_; clear S; intro _ _ S) | ((with_reducible refine gate_new rfl ?_); refine ev_new S 41 zA ?_; clear S; intro _ _ S) | ((with_reducible refine gate_load rfl ?_); first | refine ev_load S ?_ | refine ev_fld S ?_) | ((with_reducible refine gate_st rfl ?_); refine ev_store S ?_; clear S; intro _ S) | (go_at_call 108; (with_reducible refine (isC_any a b _ _ HC.out).mono ?_); rintro e w7 ⟨rfl, hb⟩; replace S := Aside0.mk (S.out.step hb); clear hb) | (go_at_call 108; (with_reducible refine (is_any a.f4.f0 a.f4.f1 b.f0.f0.f0 b.f0.f0.f1 _ _ HTG.out).mono ?_); rintro e w7 ⟨rfl, hb⟩; replace S := Aside0.mk (S.out.step hb); clear hb) | (go_at_call 22; (with_reducible refine (rcopy_any a _ _ (HA.out.below S.out.below) HF.out.1).mono ?_); rintro e w7 ⟨v, rfl, hR, hb⟩; obtain ⟨Ao, co, rfl⟩ := hR.slice; replace S := Aside0.mk (S.out.addOp hb hR); clear hb hR))
      exact bodyPost_ret (results_ct rfl _ _ _ 41 _ (0, 0) _ rfl (S.out.at_ 0 rfl) Tryd.underlying41 rfl (by kernel_rfl)) rfl ⟨_, rfl, S.out.now.2, S.out.below⟩
    · have hk' : (b.f0.f1 != 1) = true := bne_iff_ne.mpr hk
      clear hk
      go_enter Tryd.func97, Tryd.ntmps97
      go_wp2_with (first | ((with_reducible refine gate_box rfl ?_); refine ev_box S ?_; clear S; intro _ _ S) | ((with_reducible refine gate_new rfl ?_); refine ev_new S 41 zA ?_; clear S; intro _ _ S) | ((with_reducible refine gate_load rfl ?_); first | refine ev_load S ?_ | refine ev_fld S ?_) | ((with_reducible refine gate_st rfl ?_); refine ev_store S ?_; clear S; intro _ S) | (go_at_call 108; (with_reducible refine (isC_any a b _ _ HC.out).mono ?_); rintro e w7 ⟨rfl, hb⟩; replace S := Aside0.mk (S.out.step hb); clear hb) | (go_at_call 108; (with_reducible refine (is_any a.f4.f0 a.f4.f1 b.f0.f0.f0 b.f0.f0.f1 _ _ HTG.out).mono ?_); rintro e w7 ⟨rfl, hb⟩; replace S := Aside0.mk (S.out.step hb); clear hb) | (go_at_call 22; (with_reducible refine (rcopy_any a _ _ (HA.out.below S.out.below) HF.out.1).mono ?_); rintro e w7 ⟨v, rfl, hR, hb⟩; obtain ⟨Ao, co, rfl⟩ := hR.slice; replace S := Aside0.mk (S.out.addOp hb hR); clear hb hR))
      exact bodyPost_ret (results_ct rfl _ _ _ 41 _ (0, 0) _ rfl (S.out.at_ 0 rfl) Tryd.underlying41 rfl (by kernel_rfl)) rfl ⟨_, rfl, S.out.now.2, S.out.below⟩
 rw [if_neg k4]
 have k4' : (a.f0.f1 == 4) = false := beq_eq_false_iff_ne.mpr k4
 clear hsta htg
 by_cases hk : b.f0.f1 = 1
 case neg =>
  rw [if_pos hk]
  have hk' : (b.f0.f1 != 1) = true := bne_iff_ne.mpr hk
  clear hk hkind k4
  go_enter Tryd.func97, Tryd.ntmps97
  go_wp2_with (first | ((with_reducible refine gate_box rfl ?_); refine ev_box S ?_; clear S; intro _ _ S) | ((with_reducible refine gate_new rfl ?_); refine ev_new S 41 zA ?_; clear S; intro _ _ S) | ((with_reducible refine gate_load rfl ?_); first | refine ev_load S ?_ | refine ev_fld S ?_) | ((with_reducible refine gate_st rfl ?_); refine ev_store S ?_; clear S; intro _ S) | (go_at_call 108; (with_reducible refine (isC_any a b _ _ HC.out).mono ?_); rintro e w7 ⟨rfl, hb⟩; replace S := Aside0.mk (S.out.step hb); clear hb) | (go_at_call 108; (with_reducible refine (is_any a.f4.f0 a.f4.f1 b.f0.f0.f0 b.f0.f0.f1 _ _ HTG.out).mono ?_); rintro e w7 ⟨rfl, hb⟩; replace S := Aside0.mk (S.out.step hb); clear hb) | (go_at_call 22; (with_reducible refine (rcopy_any a _ _ (HA.out.below S.out.below) HF.out.1).mono ?_); rintro e w7 ⟨v, rfl, hR, hb⟩; obtain ⟨Ao, co, rfl⟩ := hR.slice; replace S := Aside0.mk (S.out.addOp hb hR); clear hb hR))
  exact bodyPost_ret (results_ct rfl _ _ _ 41 _ (0, 0) _ rfl (S.out.at_ 0 rfl) Tryd.underlying41 rfl (by kernel_rfl)) rfl ⟨_, rfl, S.out.now.2, S.out.below⟩
 rw [if_neg (show ¬ b.f0.f1 ≠ 1 from fun h => h hk)]
 have hk' : (b.f0.f1 != 1) = false := bne_eq_false_iff_eq.mpr hk
 have hbw := HGB.out.wid1 hk
 have HW := Aside0.mk (with_ctx 0 2 b.f1 (wid b) hbw.2.2.1 (by omega))
 by_cases k1 : a.f0.f1 = 1
 · rw [if_pos k1]
   have k1' : (a.f0.f1 != 1) = false := bne_eq_false_iff_eq.mpr k1
   have haw := HGA.out.wid1 k1
   have h3 := HGA.out.noRanges (.inl k1)
   have hmv := HGA.out.move0 k1
   have hrt := rows_tell b.f1 (wid b) a.f1 (wid a) ⟨hbw.2.2.1, by omega⟩ ⟨hbw.1, by omega⟩ ⟨haw.2.2.1, by omega⟩ ⟨haw.1, by omega⟩ hbw.2.2.2
   have hcl : (ctxWith 2 b.f1 (wid b)).length ≤ 3 ∧ ∀ s ∈ ctxWith 2 b.f1 (wid b), Bd s := by
    unfold ctxWith
    by_cases hp : b.f1 > 0
    · rw [if_pos hp]
      refine ⟨by simp, ?_⟩
      simp only [List.cons_append, List.nil_append, List.mem_cons, List.not_mem_nil, or_false]
      rintro s (rfl | rfl | rfl) <;> exact ⟨by simp only; omega, by simp only; omega, by simp only; omega⟩
    · rw [if_neg hp]
      refine ⟨by simp, ?_⟩
      simp only [List.nil_append, List.mem_cons, List.not_mem_nil, or_false]
      rintro s (rfl | rfl) <;> exact ⟨by simp only; omega, by simp only; omega, by simp only; omega⟩
   have hw2 := with_is (ctxWith 2 b.f1 (wid b)) 1 a.f1 (wid a) ⟨haw.2.2.1, by omega⟩ (by omega) hcl.2
   obtain ⟨LL, hLL⟩ : ∃ LL, LL = withL 1 a.f1 (wid a) (ctxWith 2 b.f1 (wid b)) 0 := ⟨_, rfl⟩
   rw [← hLL] at hrt hw2
   have HW2 := Aside0.mk hw2
   have hM : ∀ p : Int, 0 ≤ p → p ≤ 4194304 → Aside0 (ownE a = 0 ∧ a.f3 = [] ∧ (0 ≤ p ∧ p ≤ 4194304) ∧ (0 ≤ wid a ∧ wid a ≤ 1048576)) := fun p q1 q2 => ⟨HF.out.2.2.1, h3, ⟨q1, q2⟩, by omega, by omega⟩
   have hT : ∀ pl : Int, Tells LL 1 pl → (LL.length ≤ 100 ∧ decide (LL.countP (fun s => decide (s.f0 = 2)) = 1) = true) ∧ redraftref05_place.f 101 (LL.foldl (wo 2) []) 1 0 = some pl := fun pl ⟨t1, t2, t3⟩ => by
    obtain ⟨t4, t5, t6⟩ := t3 rfl
    refine ⟨⟨by omega, decide_eq_true t2⟩, ?_⟩
    have := place_is (LL.foldl (wo 2) []) 1 0 (by omega) (by omega) t6 (LL.foldl (wo 2) []).length 101 0 0 (by omega) (by omega) (by omega) (by omega)
    unfold redraftref05_place.f
    rw [List.drop_zero, t4] at this
    exact this
   have hcase : (∃ pl, Tells LL 1 pl ∧ (0 ≤ pl ∧ pl ≤ 4194304) ∧ (if a.f1 ≤ b.f1 then (a, 0) else if b.f1 + wid b ≤ a.f1 then moveE a (a.f1 - wid b) else (z41, 23)) = moveE a pl) ∨ (b.f1 < a.f1 ∧ a.f1 < b.f1 + wid b) := by
    by_cases e0 : a.f1 ≤ b.f1
    · exact .inl ⟨a.f1, hrt.1 e0, ⟨by omega, by omega⟩, by rw [if_pos e0, hmv]⟩
    · by_cases e1 : b.f1 + wid b ≤ a.f1
      · exact .inl ⟨a.f1 - wid b, hrt.2.2 e1, ⟨by omega, by omega⟩, by rw [if_neg e0, if_pos e1]⟩
      · exact .inr ⟨by omega, by omega⟩
   rcases hcase with ⟨pl, htl, hb2, heq⟩ | ⟨e1, e0⟩
   · rw [heq]
     obtain ⟨⟨t1, t2⟩, t3⟩ := hT pl htl
     have HLL := Aside0.mk t1; have HWH := Aside0.mk t2; have HPL := Aside0.mk t3
     have HM := hM pl hb2.1 hb2.2
     clear hrt hcl hw2 hM hT t1 t2 t3 hmv h3 haw hbw hk k1 k4 hkind hLL htl hb2 heq
     go_enter Tryd.func97, Tryd.ntmps97
     go_wp2_with (first | ((with_reducible refine gate_box rfl ?_); refine ev_box S ?_; clear S; intro _ _ S) | ((with_reducible refine gate_new rfl ?_); refine ev_new S 41 zA ?_; clear S; intro _ _ S) | ((with_reducible refine gate_load rfl ?_); first | refine ev_load S ?_ | refine ev_fld S ?_) | (go_at_call 108; (with_reducible refine (isC_any a b _ _ HC.out).mono ?_); rintro e w7 ⟨rfl, hb⟩; replace S := Aside0.mk (S.out.step hb); clear hb) | (go_at_call 108; (with_reducible refine (is_any a.f4.f0 a.f4.f1 b.f0.f0.f0 b.f0.f0.f1 _ _ HTG.out).mono ?_); rintro e w7 ⟨rfl, hb⟩; replace S := Aside0.mk (S.out.step hb); clear hb) | (go_at_call 105; (with_reducible refine (rwidth_any b _ _ (HB.out.below S.out.below) HF.out.2.1 HF.out.2.2.2).mono ?_); rintro e w7 ⟨rfl, hb⟩; replace S := Aside0.mk (S.out.step hb); clear hb))
     (refine rg_start (n := 6) (fun W => St w W _ _) [] S.out (fun _ h => h.drew) ?_; clear S; intro _ S; refine pu_ 1 ?_; refine fl_ 2 1 S ?_; refine pu_ 3 ?_; refine cl_ 0 #[] ?_ Tryd.func104; refine (context_any _).mono ?_; rintro e w7 ⟨v, rfl, ⟨Ar, cr, rfl, _⟩, hR, hb⟩; refine ⟨_, rfl, S.step hb, fun _ => ?_⟩; have S' := S.addR hb hR; clear S hb hR; have S := S'; clear S'; refine nr_ ?_; refine cl_ 4 #[.slice Ar 1 cr, .int .i64 2, .int .i64 b.f1, .int .i64 (wid b)] ?_ Tryd.func103; refine (with_any ctx0 _ _ _ 2 b.f1 (wid b) _ (rowC_of S.now.2) HW.out).mono ?_; rintro e w7 ⟨v, rfl, hR, hb⟩; obtain ⟨Aw, cw, rfl⟩ := Kd.R_slice hR; refine ⟨_, rfl, (S.step hb).weak (fun _ h => h.1), fun _ => ?_⟩; have S' := (S.weak (fun _ h => h.1)).addR hb hR; clear S hb hR; have S := S'; clear S'; refine nr_ ?_; refine pu_ 5 ?_; refine done_ (by kernel_rfl) ?_; have S := Aside0.mk S)
     go_wp2_with (((with_reducible refine gate_load rfl ?_); first | refine ev_load S ?_ | refine ev_fld S ?_))
     (refine rg_start (n := 7) (fun W => St w W _ _) [] S.out (fun _ h => h.drew) ?_; clear S; intro _ S; refine pu_ 0 ?_; refine pu_ 1 ?_; refine fl_ 2 2 S ?_; refine ld_ 3 2 S ?_; refine cl_ 4 #[.agg (opA a (.slice A a.f3.length c))] ?_ Tryd.func105; refine (rwidth_any a _ _ (HA.out.below S.below) HF.out.1 HF.out.2.2.1).mono ?_; rintro e w7 ⟨rfl, hb⟩; refine ⟨_, rfl, S.step hb, fun S' => ?_⟩; clear S hb; have S := S'; clear S'; refine nr_ ?_; refine cl_ 5 #[.slice Aw (ctxWith 2 b.f1 (wid b)).length cw, .int .i64 1, .int .i64 a.f1, .int .i64 (wid a)] ?_ Tryd.func103; refine (with_any (ctxWith 2 b.f1 (wid b)) _ _ _ 1 a.f1 (wid a) _ (rowC_of S.now.2) HW2.out).mono ?_; rintro e w7 ⟨v, rfl, hR, hb⟩; obtain ⟨Al, cl, rfl⟩ := Kd.R_slice hR; refine ⟨_, rfl, S.step hb, fun _ => ?_⟩; have S' := S.addR hb hR; clear S hb hR; have S := S'; clear S'; refine nr_ ?_; refine pu_ 6 ?_; refine done_ (by kernel_rfl) ?_; have S := Aside0.mk S)
     go_wp2_with ((go_at_call 112; (with_reducible refine (whole_any LL _ 2 _ _ HLL.out (rowC_of S.out.now.2) HWH.out).mono ?_); rintro e w7 ⟨rfl, hb⟩; replace S := Aside0.mk (S.out.step hb); clear hb))
     (refine rg_start (n := 9) (fun W => St w W _ _) [7] S.out (fun _ h => h.drew) ?_; clear S; intro _ S; refine ld_ 0 2 S ?_; refine pu_ 1 ?_; refine cl_ 2 #[.slice Al LL.length cl, .int .i64 2] ?_ Tryd.func113; refine (without_any LL _ 2 _ HLL.out (rowC_of S.now.2)).mono ?_; rintro e w7 ⟨v, rfl, hR, hb⟩; obtain ⟨Ax, cx, rfl⟩ := Kd.R_slice hR; refine ⟨_, rfl, S.step hb, fun _ => ?_⟩; have S' := S.addR hb hR; clear S hb hR; have S := S'; clear S'; refine nr_ ?_; refine cl_ 3 #[.slice Ax (LL.foldl (wo 2) []).length cx, .int .i64 1, .int .i64 0] ?_ Tryd.func106; refine (place_any _ _ _ 1 0 pl _ (rowC_of S.now.2) HPL.out).mono ?_; rintro e w7 ⟨rfl, hb⟩; have S' := S.step hb; refine ⟨_, rfl, S'.weak (fun _ h => h.1), fun _ => ?_⟩; clear S hb; have S := S'; clear S'; refine nr_ ?_; refine cl_ 4 #[.agg (opA a (.slice A a.f3.length c)), .int .i64 pl] ?_ Tryd.func109; refine (rmoved_any a _ pl _ (HA.out.below S.below) HF.out.1 HM.out.1 HM.out.2.1 HM.out.2.2.1 HM.out.2.2.2).mono ?_; rintro e w7 ⟨v, rfl, hR, hb⟩; obtain ⟨Ai, ci, rfl⟩ := hR.slice; refine ⟨_, rfl, (S.step hb).weak (fun _ h => h.1), fun _ => ?_⟩; have S' := S.addOp hb hR; clear S hb hR; have S := S'; clear S'; refine nr_ ?_; refine pu_ 5 ?_; refine pu_ 6 ?_; refine so_ 7 0 S ?_; clear S; intro _ S; refine pu_ 8 ?_; refine done_ (by kernel_rfl) ?_; have S := Aside0.mk S)
     go_wp2_with (fail)
     exact bodyPost_ret (results_ct rfl _ _ _ 41 _ (0, 0) _ rfl (S.out.at_ 0 rfl) Tryd.underlying41 rfl (by kernel_rfl)) rfl ⟨_, rfl, S.out.now.2, S.out.below⟩
   · rw [if_neg (by omega), if_neg (by omega)]
     obtain ⟨t1, t2, _⟩ := hrt.2.1 e1 e0
     have HLL := Aside0.mk (show LL.length ≤ 100 by omega)
     have HWH := Aside0.mk (show decide (LL.countP (fun s => decide (s.f0 = 2)) = 1) = false from decide_eq_false (by omega))
     clear hrt hcl hw2 hM hT e0 e1 t1 t2 hmv h3 haw hbw hk k1 k4 hkind hLL
     go_enter Tryd.func97, Tryd.ntmps97
     go_wp2_with (first | ((with_reducible refine gate_box rfl ?_); refine ev_box S ?_; clear S; intro _ _ S) | ((with_reducible refine gate_new rfl ?_); refine ev_new S 41 zA ?_; clear S; intro _ _ S) | ((with_reducible refine gate_load rfl ?_); first | refine ev_load S ?_ | refine ev_fld S ?_) | (go_at_call 108; (with_reducible refine (isC_any a b _ _ HC.out).mono ?_); rintro e w7 ⟨rfl, hb⟩; replace S := Aside0.mk (S.out.step hb); clear hb) | (go_at_call 108; (with_reducible refine (is_any a.f4.f0 a.f4.f1 b.f0.f0.f0 b.f0.f0.f1 _ _ HTG.out).mono ?_); rintro e w7 ⟨rfl, hb⟩; replace S := Aside0.mk (S.out.step hb); clear hb) | (go_at_call 105; (with_reducible refine (rwidth_any b _ _ (HB.out.below S.out.below) HF.out.2.1 HF.out.2.2.2).mono ?_); rintro e w7 ⟨rfl, hb⟩; replace S := Aside0.mk (S.out.step hb); clear hb))
     (refine rg_start (n := 6) (fun W => St w W _ _) [] S.out (fun _ h => h.drew) ?_; clear S; intro _ S; refine pu_ 1 ?_; refine fl_ 2 1 S ?_; refine pu_ 3 ?_; refine cl_ 0 #[] ?_ Tryd.func104; refine (context_any _).mono ?_; rintro e w7 ⟨v, rfl, ⟨Ar, cr, rfl, _⟩, hR, hb⟩; refine ⟨_, rfl, S.step hb, fun _ => ?_⟩; have S' := S.addR hb hR; clear S hb hR; have S := S'; clear S'; refine nr_ ?_; refine cl_ 4 #[.slice Ar 1 cr, .int .i64 2, .int .i64 b.f1, .int .i64 (wid b)] ?_ Tryd.func103; refine (with_any ctx0 _ _ _ 2 b.f1 (wid b) _ (rowC_of S.now.2) HW.out).mono ?_; rintro e w7 ⟨v, rfl, hR, hb⟩; obtain ⟨Aw, cw, rfl⟩ := Kd.R_slice hR; refine ⟨_, rfl, (S.step hb).weak (fun _ h => h.1), fun _ => ?_⟩; have S' := (S.weak (fun _ h => h.1)).addR hb hR; clear S hb hR; have S := S'; clear S'; refine nr_ ?_; refine pu_ 5 ?_; refine done_ (by kernel_rfl) ?_; have S := Aside0.mk S)
     go_wp2_with (((with_reducible refine gate_load rfl ?_); first | refine ev_load S ?_ | refine ev_fld S ?_))
     (refine rg_start (n := 7) (fun W => St w W _ _) [] S.out (fun _ h => h.drew) ?_; clear S; intro _ S; refine pu_ 0 ?_; refine pu_ 1 ?_; refine fl_ 2 2 S ?_; refine ld_ 3 2 S ?_; refine cl_ 4 #[.agg (opA a (.slice A a.f3.length c))] ?_ Tryd.func105; refine (rwidth_any a _ _ (HA.out.below S.below) HF.out.1 HF.out.2.2.1).mono ?_; rintro e w7 ⟨rfl, hb⟩; refine ⟨_, rfl, S.step hb, fun S' => ?_⟩; clear S hb; have S := S'; clear S'; refine nr_ ?_; refine cl_ 5 #[.slice Aw (ctxWith 2 b.f1 (wid b)).length cw, .int .i64 1, .int .i64 a.f1, .int .i64 (wid a)] ?_ Tryd.func103; refine (with_any (ctxWith 2 b.f1 (wid b)) _ _ _ 1 a.f1 (wid a) _ (rowC_of S.now.2) HW2.out).mono ?_; rintro e w7 ⟨v, rfl, hR, hb⟩; obtain ⟨Al, cl, rfl⟩ := Kd.R_slice hR; refine ⟨_, rfl, S.step hb, fun _ => ?_⟩; have S' := S.addR hb hR; clear S hb hR; have S := S'; clear S'; refine nr_ ?_; refine pu_ 6 ?_; refine done_ (by kernel_rfl) ?_; have S := Aside0.mk S)
     go_wp2_with (first | ((with_reducible refine gate_st rfl ?_); refine ev_store S ?_; clear S; intro _ S) | (go_at_call 112; (with_reducible refine (whole_any LL _ 2 _ _ HLL.out (rowC_of S.out.now.2) HWH.out).mono ?_); rintro e w7 ⟨rfl, hb⟩; replace S := Aside0.mk (S.out.step hb); clear hb))
     exact bodyPost_ret (results_ct rfl _ _ _ 41 zA (0, 0) _ rfl (S.out.at_ 0 rfl) Tryd.underlying41 rfl (by kernel_rfl)) rfl ⟨.slice none 0 0, rfl, opR_nil _ _, S.out.below⟩
 rw [if_neg k1]
 have k1' : (a.f0.f1 != 1) = true := bne_iff_ne.mpr k1
 have hrg := HGA.out.rng (by omega)
 obtain ⟨k, hf⟩ := found_back a.f3 b.f1 (wid b) hrg ⟨hbw.2.2.1, by omega⟩ ⟨hbw.1, by omega⟩ hbw.2.2.2
 cases hh : hits b.f1 (wid b) a.f3 with
 | true =>
  rw [if_pos rfl]
  rw [hh, if_pos rfl] at hf
  obtain ⟨lf, hlf⟩ : ∃ lf : List S94, lf = [] := ⟨_, rfl⟩
  obtain ⟨qf, hqf⟩ : ∃ qf : Int, qf = 23 := ⟨_, rfl⟩
  rw [← hlf, ← hqf] at hf
  have HP := Aside0.mk hf
  have q1 : (qf != 0) = true := by rw [hqf]; rfl
  rw [← hqf]
  clear hf hh hrg hbw hk k1 k4 hkind hlf hqf
  go_enter Tryd.func97, Tryd.ntmps97
  go_wp2_with (first | ((with_reducible refine gate_box rfl ?_); refine ev_box S ?_; clear S; intro _ _ S) | ((with_reducible refine gate_new rfl ?_); refine ev_new S 41 zA ?_; clear S; intro _ _ S) | ((with_reducible refine gate_load rfl ?_); first | refine ev_load S ?_ | refine ev_fld S ?_) | (go_at_call 108; (with_reducible refine (isC_any a b _ _ HC.out).mono ?_); rintro e w7 ⟨rfl, hb⟩; replace S := Aside0.mk (S.out.step hb); clear hb) | (go_at_call 108; (with_reducible refine (is_any a.f4.f0 a.f4.f1 b.f0.f0.f0 b.f0.f0.f1 _ _ HTG.out).mono ?_); rintro e w7 ⟨rfl, hb⟩; replace S := Aside0.mk (S.out.step hb); clear hb) | (go_at_call 105; (with_reducible refine (rwidth_any b _ _ (HB.out.below S.out.below) HF.out.2.1 HF.out.2.2.2).mono ?_); rintro e w7 ⟨rfl, hb⟩; replace S := Aside0.mk (S.out.step hb); clear hb))
  (refine rg_start (n := 6) (fun W => St w W _ _) [] S.out (fun _ h => h.drew) ?_; clear S; intro _ S; refine pu_ 1 ?_; refine fl_ 2 1 S ?_; refine pu_ 3 ?_; refine cl_ 0 #[] ?_ Tryd.func104; refine (context_any _).mono ?_; rintro e w7 ⟨v, rfl, ⟨Ar, cr, rfl, _⟩, hR, hb⟩; refine ⟨_, rfl, S.step hb, fun _ => ?_⟩; have S' := S.addR hb hR; clear S hb hR; have S := S'; clear S'; refine nr_ ?_; refine cl_ 4 #[.slice Ar 1 cr, .int .i64 2, .int .i64 b.f1, .int .i64 (wid b)] ?_ Tryd.func103; refine (with_any ctx0 _ _ _ 2 b.f1 (wid b) _ (rowC_of S.now.2) HW.out).mono ?_; rintro e w7 ⟨v, rfl, hR, hb⟩; obtain ⟨Aw, cw, rfl⟩ := Kd.R_slice hR; refine ⟨_, rfl, (S.step hb).weak (fun _ h => h.1), fun _ => ?_⟩; have S' := (S.weak (fun _ h => h.1)).addR hb hR; clear S hb hR; have S := S'; clear S'; refine nr_ ?_; refine pu_ 5 ?_; refine done_ (by kernel_rfl) ?_; have S := Aside0.mk S)
  go_wp2_with (((with_reducible refine gate_load rfl ?_); first | refine ev_load S ?_ | refine ev_fld S ?_))
  (refine rg_start (n := 10) (fun W => St w W _ _) [] S.out (fun _ h => h.drew) ?_; clear S; intro _ S; refine pu_ 0 ?_; refine pu_ 2 ?_; refine fl_ 3 2 S ?_; refine cl_ 1 #[] ?_ Tryd.func104; refine (context_any _).mono ?_; rintro e w7 ⟨v, rfl, ⟨Ar, cr, rfl, _⟩, hR, hb⟩; refine ⟨_, rfl, S.step hb, fun _ => ?_⟩; have S' := S.addR hb hR; clear S hb hR; have S := S'; clear S'; refine nr_ ?_; refine cl_ 4 #[.slice Aw (ctxWith 2 b.f1 (wid b)).length cw, .slice Ar 1 cr, .slice A a.f3.length c] ?_ Tryd.func110; refine (found_any (ctxWith 2 b.f1 (wid b)) ctx0 a.f3 lf qf _ _ _ A c _ (rowC_of S.now.1.2) (rowC_of S.now.2) H1.out (Kd.C_below H2.out S.below) HP.out).mono ?_; rintro e w7 ⟨v, rfl, hR, hb⟩; obtain ⟨Af, cf, rfl⟩ := Kd.R_slice hR; refine ⟨_, rfl, (S.step hb).weak (fun _ h => h.1), fun _ => ?_⟩; have S' := S.addR hb hR; clear S hb hR; have S := S'; clear S'; refine nr_ ?_; refine pu_ 5 ?_; refine pu_ 6 ?_; refine pu_ 7 ?_; refine pu_ 8 ?_; refine pu_ 9 ?_; refine done_ (by kernel_rfl) ?_; have S := Aside0.mk S)
  go_wp2_with (((with_reducible refine gate_st rfl ?_); refine ev_store S ?_; clear S; intro _ S))
  exact bodyPost_ret (results_ct rfl _ _ _ 41 zA (0, 0) _ rfl (S.out.at_ 0 rfl) Tryd.underlying41 rfl (by kernel_rfl)) rfl ⟨.slice none 0 0, rfl, opR_nil _ _, S.out.below⟩
 | false =>
  rw [if_neg (by simp)]
  rw [hh, if_neg (by simp)] at hf
  rw [← cov_bk b.f1 (wid b) hrg hbw.1]
  obtain ⟨lf, hlf⟩ : ∃ lf, lf = bkS b.f1 (wid b) a.f3 := ⟨_, rfl⟩
  obtain ⟨qf, hqf⟩ : ∃ qf : Int, qf = 0 := ⟨_, rfl⟩
  rw [← hlf, ← hqf] at hf
  rw [← hlf]
  have HP := Aside0.mk hf
  have HL := Aside0.mk (show lf.length ≤ 4611686018427387904 by
   have := fold_jn_len (a.f3.map (mv b.f1 (wid b))) []
   have := HF.out.1.2
   rw [hlf]; unfold bkS; simp at *; omega)
  have q1 : (qf != 0) = false := by rw [hqf]; rfl
  clear hf hh hrg hbw hk k1 k4 hkind hlf hqf
  go_enter Tryd.func97, Tryd.ntmps97
  go_wp2_with (first | ((with_reducible refine gate_box rfl ?_); refine ev_box S ?_; clear S; intro _ _ S) | ((with_reducible refine gate_new rfl ?_); refine ev_new S 41 zA ?_; clear S; intro _ _ S) | ((with_reducible refine gate_load rfl ?_); first | refine ev_load S ?_ | refine ev_fld S ?_) | (go_at_call 108; (with_reducible refine (isC_any a b _ _ HC.out).mono ?_); rintro e w7 ⟨rfl, hb⟩; replace S := Aside0.mk (S.out.step hb); clear hb) | (go_at_call 108; (with_reducible refine (is_any a.f4.f0 a.f4.f1 b.f0.f0.f0 b.f0.f0.f1 _ _ HTG.out).mono ?_); rintro e w7 ⟨rfl, hb⟩; replace S := Aside0.mk (S.out.step hb); clear hb) | (go_at_call 105; (with_reducible refine (rwidth_any b _ _ (HB.out.below S.out.below) HF.out.2.1 HF.out.2.2.2).mono ?_); rintro e w7 ⟨rfl, hb⟩; replace S := Aside0.mk (S.out.step hb); clear hb))
  (refine rg_start (n := 6) (fun W => St w W _ _) [] S.out (fun _ h => h.drew) ?_; clear S; intro _ S; refine pu_ 1 ?_; refine fl_ 2 1 S ?_; refine pu_ 3 ?_; refine cl_ 0 #[] ?_ Tryd.func104; refine (context_any _).mono ?_; rintro e w7 ⟨v, rfl, ⟨Ar, cr, rfl, _⟩, hR, hb⟩; refine ⟨_, rfl, S.step hb, fun _ => ?_⟩; have S' := S.addR hb hR; clear S hb hR; have S := S'; clear S'; refine nr_ ?_; refine cl_ 4 #[.slice Ar 1 cr, .int .i64 2, .int .i64 b.f1, .int .i64 (wid b)] ?_ Tryd.func103; refine (with_any ctx0 _ _ _ 2 b.f1 (wid b) _ (rowC_of S.now.2) HW.out).mono ?_; rintro e w7 ⟨v, rfl, hR, hb⟩; obtain ⟨Aw, cw, rfl⟩ := Kd.R_slice hR; refine ⟨_, rfl, (S.step hb).weak (fun _ h => h.1), fun _ => ?_⟩; have S' := (S.weak (fun _ h => h.1)).addR hb hR; clear S hb hR; have S := S'; clear S'; refine nr_ ?_; refine pu_ 5 ?_; refine done_ (by kernel_rfl) ?_; have S := Aside0.mk S)
  go_wp2_with (((with_reducible refine gate_load rfl ?_); first | refine ev_load S ?_ | refine ev_fld S ?_))
  (refine rg_start (n := 10) (fun W => St w W _ _) [] S.out (fun _ h => h.drew) ?_; clear S; intro _ S; refine pu_ 0 ?_; refine pu_ 2 ?_; refine fl_ 3 2 S ?_; refine cl_ 1 #[] ?_ Tryd.func104; refine (context_any _).mono ?_; rintro e w7 ⟨v, rfl, ⟨Ar, cr, rfl, _⟩, hR, hb⟩; refine ⟨_, rfl, S.step hb, fun _ => ?_⟩; have S' := S.addR hb hR; clear S hb hR; have S := S'; clear S'; refine nr_ ?_; refine cl_ 4 #[.slice Aw (ctxWith 2 b.f1 (wid b)).length cw, .slice Ar 1 cr, .slice A a.f3.length c] ?_ Tryd.func110; refine (found_any (ctxWith 2 b.f1 (wid b)) ctx0 a.f3 lf qf _ _ _ A c _ (rowC_of S.now.1.2) (rowC_of S.now.2) H1.out (Kd.C_below H2.out S.below) HP.out).mono ?_; rintro e w7 ⟨v, rfl, hR, hb⟩; obtain ⟨Af, cf, rfl⟩ := Kd.R_slice hR; refine ⟨_, rfl, (S.step hb).weak (fun _ h => h.1), fun _ => ?_⟩; have S' := S.addR hb hR; clear S hb hR; have S := S'; clear S'; refine nr_ ?_; refine pu_ 5 ?_; refine pu_ 6 ?_; refine pu_ 7 ?_; refine pu_ 8 ?_; refine pu_ 9 ?_; refine done_ (by kernel_rfl) ?_; have S := Aside0.mk S)
  go_wp2_with (first | ((with_reducible refine gate_load rfl ?_); first | refine ev_load S ?_ | refine ev_fld S ?_) | ((with_reducible refine gate_st rfl ?_); refine ev_store S ?_; clear S; intro _ S) | (go_at_call 111; (with_reducible refine (covering_any a _ _ _ w _ _ _ S.out ?hbs HA.out S.out.now.2 HL.out).mono ?_); (case hbs => simp [k94_E]); rintro e w7 ⟨v, rfl, ⟨Ai, ci, rfl⟩, hS⟩; replace S := Aside0.mk hS; clear hS))
  exact bodyPost_ret (results_ct rfl _ _ _ 41 _ (0, 0) _ rfl (S.out.at_ 0 rfl) Tryd.underlying41 rfl (by kernel_rfl)) rfl ⟨_, rfl, S.out.now.2, S.out.below⟩
end Go.Proofs.YtloccjkcmlkifaaDoor
end

section
/- Where the first insert stands behind the second, in a row that holds both. -/
namespace Go.Proofs.YtloccjkcmlkifaaDoor
open Go.RowKit Go.Proofs.YtloccjkcmlkifaaDoor.PAll Go.Proofs.YtloccjkcmlkifaaDoorW.PrintWords

theorem rows_tell2 (p n x m : Int) (hp : 0 ≤ p ∧ p ≤ 1048576) (hn : 1 ≤ n ∧ n ≤ 1048576) (hx : 0 ≤ x ∧ x ≤ 1048576) (hm : 1 ≤ m ∧ m ≤ 1048576) (hpn : p + n ≤ 1048576) (h : x ≤ p ∨ p + n ≤ x) :
 placeL 1 0 (withL 2 x m (ctxWith 1 p n) 0) 0 = (if x ≤ p then p + m else p) ∧ (withL 2 x m (ctxWith 1 p n) 0).length ≤ 8 ∧ ∀ s ∈ withL 2 x m (ctxWith 1 p n) 0, Bd s := by
 have hn0 : (0 : Int) < n := by omega
 by_cases h0 : p > 0
 · have hc : ctxWith 1 p n = [⟨0, 0, p⟩, ⟨1, 0, n⟩, ⟨0, p, 2097152⟩] := by unfold ctxWith; rw [if_pos h0]; rfl
   have hw : withL 2 x m (ctxWith 1 p n) 0 = wst 2 x m ⟨0, 0, p⟩ 0 ++ (wst 2 x m ⟨1, 0, n⟩ p ++ (wst 2 x m ⟨0, p, 2097152⟩ (p + n) ++ [])) := by
    rw [hc]
    show wst 2 x m ⟨0, 0, p⟩ 0 ++ (wst 2 x m ⟨1, 0, n⟩ (0 + p - 0) ++ (wst 2 x m ⟨0, p, 2097152⟩ (0 + p - 0 + n - 0) ++ [])) = _
    rw [show (0 : Int) + p - 0 = p by omega, show p + n - 0 = p + n by omega]
   rw [hw]
   by_cases c : x ≤ p
   · rw [if_pos c]
     by_cases e : x = p
     · rw [wst_no (.inr (by omega)), wst_at e (by omega), wst_no (.inl (by omega))]
       refine ⟨by simp [placeL, hn0], by simp, ?_⟩
       simp only [List.cons_append, List.nil_append, List.append_nil, List.mem_cons, List.not_mem_nil, or_false]
       rintro s (rfl | rfl | rfl | rfl) <;> exact ⟨by simp only; omega, by simp only; omega, by simp only; omega⟩
     · by_cases e0 : x = 0
       · rw [wst_at e0 (by omega), wst_no (.inl (by omega)), wst_no (.inl (by omega))]
         refine ⟨by simp [placeL, hn0]; omega, by simp, ?_⟩
         simp only [List.cons_append, List.nil_append, List.append_nil, List.mem_cons, List.not_mem_nil, or_false]
         rintro s (rfl | rfl | rfl | rfl) <;> exact ⟨by simp only; omega, by simp only; omega, by simp only; omega⟩
       · rw [wst_in (by omega) (by omega), wst_no (.inl (by omega)), wst_no (.inl (by omega)), show (0 : Int) + x - 0 = x by omega]
         refine ⟨by simp [placeL, hn0]; omega, by simp, ?_⟩
         simp only [List.cons_append, List.nil_append, List.append_nil, List.mem_cons, List.not_mem_nil, or_false]
         rintro s (rfl | rfl | rfl | rfl | rfl) <;> exact ⟨by simp only; omega, by simp only; omega, by simp only; omega⟩
   · rw [if_neg c]
     by_cases e : x = p + n
     · rw [wst_no (.inr (by omega)), wst_no (.inr (by omega)), wst_at e (by omega)]
       refine ⟨by simp [placeL, hn0], by simp, ?_⟩
       simp only [List.cons_append, List.nil_append, List.append_nil, List.mem_cons, List.not_mem_nil, or_false]
       rintro s (rfl | rfl | rfl | rfl) <;> exact ⟨by simp only; omega, by simp only; omega, by simp only; omega⟩
     · rw [wst_no (.inr (by omega)), wst_no (.inr (by omega)), wst_in (by omega) (by omega)]
       refine ⟨by simp [placeL, hn0], by simp, ?_⟩
       simp only [List.cons_append, List.nil_append, List.append_nil, List.mem_cons, List.not_mem_nil, or_false]
       rintro s (rfl | rfl | rfl | rfl | rfl) <;> exact ⟨by simp only; omega, by simp only; omega, by simp only; omega⟩
 · have hp0 : p = 0 := by omega
   subst hp0
   have hc : ctxWith 1 0 n = [⟨1, 0, n⟩, ⟨0, 0, 2097152⟩] := rfl
   have hw : withL 2 x m (ctxWith 1 0 n) 0 = wst 2 x m ⟨1, 0, n⟩ 0 ++ (wst 2 x m ⟨0, 0, 2097152⟩ n ++ []) := by
    rw [hc]
    show wst 2 x m ⟨1, 0, n⟩ 0 ++ (wst 2 x m ⟨0, 0, 2097152⟩ (0 + n - 0) ++ []) = _
    rw [show (0 : Int) + n - 0 = n by omega]
   rw [hw]
   by_cases c : x ≤ 0
   · rw [if_pos c, wst_at (by omega) (by omega), wst_no (.inl (by omega))]
     refine ⟨by simp [placeL, hn0], by simp, ?_⟩
     simp only [List.cons_append, List.nil_append, List.append_nil, List.mem_cons, List.not_mem_nil, or_false]
     rintro s (rfl | rfl | rfl) <;> exact ⟨by simp only; omega, by simp only; omega, by simp only; omega⟩
   · rw [if_neg c]
     by_cases e : x = n
     · rw [wst_no (.inr (by omega)), wst_at e (by omega)]
       refine ⟨by simp [placeL, hn0], by simp, ?_⟩
       simp only [List.cons_append, List.nil_append, List.append_nil, List.mem_cons, List.not_mem_nil, or_false]
       rintro s (rfl | rfl | rfl) <;> exact ⟨by simp only; omega, by simp only; omega, by simp only; omega⟩
     · rw [wst_no (.inr (by omega)), wst_in (by omega) (by omega)]
       refine ⟨by simp [placeL, hn0], by simp, ?_⟩
       simp only [List.cons_append, List.nil_append, List.append_nil, List.mem_cons, List.not_mem_nil, or_false]
       rintro s (rfl | rfl | rfl | rfl) <;> exact ⟨by simp only; omega, by simp only; omega, by simp only; omega⟩
end Go.Proofs.YtloccjkcmlkifaaDoor
end

section
/- The document's transpose answers as the program's. -/
namespace Go.Proofs.YtloccjkcmlkifaaDoor
open Go.RowKit Go.Proofs.YtloccjkcmlkifaaDoor.PAll Go.Proofs.YtloccjkcmlkifaaDoorW.PrintWords Go.Proofs.YtloccjkcmlkifaaDoorW.PrintLast

theorem exc_stands {a b : S41} (ka : a.f0.f1 = 1) (kb : b.f0.f1 = 1) (h : (excE b a).2 = 0) : b.f1 ≤ a.f1 ∨ a.f1 + wid a ≤ b.f1 := by
 unfold excE at h
 by_cases c : clashB b a = true
 · rw [if_pos c] at h; exact absurd h (by decide)
 rw [if_neg c, if_neg (by omega), if_neg (show ¬ a.f0.f1 ≠ 1 from fun q => q ka), if_pos kb] at h
 by_cases c1 : b.f1 ≤ a.f1
 · exact .inl c1
 · rw [if_neg c1] at h
   by_cases c2 : a.f1 + wid a ≤ b.f1
   · exact .inr c2
   · rw [if_neg c2] at h; exact absurd h (by decide)
attribute [local go_sem high] eqA35 idx35_0 idx35_1
set_option maxRecDepth 100000 in
set_option maxHeartbeats 8000000 in
theorem trE_ref (a b : S41) (va vb : Value) (w : World) (ha : OpC w va a) (hb : OpC w vb b) (ga : Good a) (gb : Good b) :
 Calls Tryd.prog 98 #[.agg (opA a va), .agg (opA b vb)] w (RetOp2 w (trE a b)) := by
 obtain ⟨A, c, rfl, h1, h2⟩ := ha
 obtain ⟨B, d, rfl, h3, h4⟩ := hb
 have S := Aside0.mk (St.init w (F := fun _ => True) (fun _ _ => trivial))
 have HA := Aside0.mk (opC_mk h1 h2); have HB := Aside0.mk (opC_mk h3 h4)
 have HF := Aside0.mk (show fineOp a ∧ fineOp b ∧ ownE a = 0 ∧ ownE b = 0 from ⟨ga.fine, gb.fine, ga.own, gb.own⟩)
 have HGA := Aside0.mk ga; have HGB := Aside0.mk gb
 have hsta := (own_ok ga.own).2.2.2.2.2.2
 obtain ⟨tg, htg⟩ : ∃ tg, decide (a.f4.f0 = b.f0.f0.f0 ∧ a.f4.f1 = b.f0.f0.f1 ∧ (a.f4.f0 ≠ 0 ∨ a.f4.f1 ≠ 0)) = tg := ⟨_, rfl⟩
 have HTG := Aside0.mk htg
 obtain ⟨on1, hon⟩ : ∃ on1, decide (a.f4.f0 = b.f4.f0 ∧ a.f4.f1 = b.f4.f1 ∧ (a.f4.f0 ≠ 0 ∨ a.f4.f1 ≠ 0)) = on1 := ⟨_, rfl⟩
 have HON := Aside0.mk hon
 have hkind := ga.kind
 clear h1 h2 h3 h4
 unfold trE
 by_cases h0 : (excE b a).2 = 0
 case neg =>
  rw [if_pos h0]
  have h0' : ((excE b a).2 != 0) = true := bne_iff_ne.mpr h0
  clear h0 hsta htg hon hkind ga gb
  go_enter Tryd.func98, Tryd.ntmps98
  go_wp2_with (first | ((with_reducible refine gate_box rfl ?_); refine ev_box S ?_; clear S; intro _ _ S) | ((with_reducible refine gate_new rfl ?_); refine ev_new S 41 zA ?_; clear S; intro _ _ S) | ((with_reducible refine gate_load rfl ?_); first | refine ev_load S ?_ | refine ev_fld S ?_) | ((with_reducible refine gate_st rfl ?_); refine ev_store S ?_; clear S; intro _ S) | (go_at_call 97; (with_reducible refine (excE_ref b a _ _ _ (HB.out.below S.out.below) (HA.out.below S.out.below) HGB.out HGA.out).mono ?_); rintro e w7 ⟨v, rfl, hR, hb⟩; obtain ⟨Ao, co, rfl⟩ := hR.slice; replace S := Aside0.mk (S.out.addOp hb hR); clear hb hR))
  exact bodyPost_ret (results_cct rfl _ _ _ _ 41 41 zA zA (0, 0) (0, 0) _ _ rfl (S.out.at_ 2 rfl) Tryd.underlying41 rfl (by kernel_rfl) rfl (S.out.at_ 1 rfl) Tryd.underlying41 rfl (by kernel_rfl)) rfl ⟨.slice none 0 0, .slice none 0 0, rfl, opR_nil _ _, opR_nil _ _, S.out.below⟩
 rw [if_neg (fun h => h h0)]
 have h0' : ((excE b a).2 != 0) = false := bne_eq_false_iff_eq.mpr h0
 by_cases k4 : a.f0.f1 = 4
 · have k4' : (a.f0.f1 == 4) = true := beq_iff_eq.mpr k4
   have hs := hsta k4
   have hnz : a.f4.f0 ≠ 0 := by
    intro hz
    unfold staE isID at hs
    rw [if_neg (by rintro ⟨q, _⟩; have := of_decide_eq_true q; omega)] at hs
    exact absurd hs (by decide)
   have hat : aimB a b = tg := by
    rw [← htg]
    unfold aimB
    by_cases p1 : a.f4.f0 = b.f0.f0.f0 <;> by_cases p2 : a.f4.f1 = b.f0.f0.f1 <;> simp [p1, p2]
    rw [← p1]; exact .inl hnz
   have hst : sameAim a b = on1 := by
    rw [← hon]
    unfold sameAim
    by_cases p1 : a.f4.f0 = b.f4.f0 <;> by_cases p2 : a.f4.f1 = b.f4.f1 <;> simp [p1, p2]
    rw [← p1]; exact .inl hnz
   have htr : trClash a b = ((b.f0.f1 == 4 && on1 && !(a.f5 == b.f5)) || tg) := by
    unfold trClash; rw [k4', hst, hat, Bool.true_and]; rfl
   rw [htr, if_neg (show ¬ (b.f0.f1 = 1 ∧ a.f0.f1 = 1 ∧ b.f1 ≤ a.f1) by omega), if_neg (show ¬ (b.f0.f1 = 1 ∧ (a.f0.f1 = 2 ∨ a.f0.f1 = 3)) by omega)]
   clear hsta htg hon hs hnz hat hst htr hkind ga gb h0 k4
   obtain ⟨x2, hx2⟩ : ∃ x2, (b.f0.f1 == 4) = x2 := ⟨_, rfl⟩
   obtain ⟨x4, hx4⟩ : ∃ x4, (a.f5 == b.f5) = x4 := ⟨_, rfl⟩
   obtain ⟨x6, hx6⟩ : ∃ x6, (b.f0.f1 != 1) = x6 := ⟨_, rfl⟩
   rw [hx2, hx4]
   have hz6 : x2 = true → x6 = true := fun h => by rw [← hx6]; rw [h] at hx2; rw [beq_iff_eq.mp hx2]; rfl
   cases x2 with
   | false =>
    rw [Bool.false_and, Bool.false_and, Bool.false_or]
    clear hz6
    cases tg with
    | true =>
     rw [if_pos rfl]
     go_enter Tryd.func98, Tryd.ntmps98
     go_wp2_with (first | ((with_reducible refine gate_box rfl ?_); refine ev_box S ?_; clear S; intro _ _ S) | ((with_reducible refine gate_new rfl ?_); refine ev_new S 41 zA ?_; clear S; intro _ _ S) | ((with_reducible refine gate_load rfl ?_); first | refine ev_load S ?_ | refine ev_fld S ?_) | ((with_reducible refine gate_st rfl ?_); refine ev_store S ?_; clear S; intro _ S) | (go_at_call 97; (with_reducible refine (excE_ref b a _ _ _ (HB.out.below S.out.below) (HA.out.below S.out.below) HGB.out HGA.out).mono ?_); rintro e w7 ⟨v, rfl, hR, hb⟩; obtain ⟨Ao, co, rfl⟩ := hR.slice; replace S := Aside0.mk (S.out.addOp hb hR); clear hb hR) | (go_at_call 108; (with_reducible refine (is_any a.f4.f0 a.f4.f1 b.f4.f0 b.f4.f1 _ _ HON.out).mono ?_); rintro e w7 ⟨rfl, hb⟩; replace S := Aside0.mk (S.out.step hb); clear hb) | (go_at_call 108; (with_reducible refine (is_any a.f4.f0 a.f4.f1 b.f0.f0.f0 b.f0.f0.f1 _ _ HTG.out).mono ?_); rintro e w7 ⟨rfl, hb⟩; replace S := Aside0.mk (S.out.step hb); clear hb))
     exact bodyPost_ret (results_cct rfl _ _ _ _ 41 41 zA zA (0, 0) (0, 0) _ _ rfl (S.out.at_ 2 rfl) Tryd.underlying41 rfl (by kernel_rfl) rfl (S.out.at_ 1 rfl) Tryd.underlying41 rfl (by kernel_rfl)) rfl ⟨.slice none 0 0, .slice none 0 0, rfl, opR_nil _ _, opR_nil _ _, S.out.below⟩
    | false =>
     rw [if_neg (by simp)]
     cases x6
     all_goals
      go_enter Tryd.func98, Tryd.ntmps98
      go_wp2_with (first | ((with_reducible refine gate_box rfl ?_); refine ev_box S ?_; clear S; intro _ _ S) | ((with_reducible refine gate_new rfl ?_); refine ev_new S 41 zA ?_; clear S; intro _ _ S) | ((with_reducible refine gate_load rfl ?_); first | refine ev_load S ?_ | refine ev_fld S ?_) | ((with_reducible refine gate_st rfl ?_); refine ev_store S ?_; clear S; intro _ S) | (go_at_call 97; (with_reducible refine (excE_ref b a _ _ _ (HB.out.below S.out.below) (HA.out.below S.out.below) HGB.out HGA.out).mono ?_); rintro e w7 ⟨v, rfl, hR, hb⟩; obtain ⟨Ao, co, rfl⟩ := hR.slice; replace S := Aside0.mk (S.out.addOp hb hR); clear hb hR) | (go_at_call 108; (with_reducible refine (is_any a.f4.f0 a.f4.f1 b.f4.f0 b.f4.f1 _ _ HON.out).mono ?_); rintro e w7 ⟨rfl, hb⟩; replace S := Aside0.mk (S.out.step hb); clear hb) | (go_at_call 108; (with_reducible refine (is_any a.f4.f0 a.f4.f1 b.f0.f0.f0 b.f0.f0.f1 _ _ HTG.out).mono ?_); rintro e w7 ⟨rfl, hb⟩; replace S := Aside0.mk (S.out.step hb); clear hb))
      (refine rg_start (n := 6) (fun W => St w W _ _) [3, 4] S.out (fun _ h => h.drew) ?_; clear S; intro _ S; refine ld_ 0 0 S ?_; refine ld_ 1 4 S ?_; refine cl_ 2 #[.agg (opA a (.slice A a.f3.length c))] ?_ Tryd.func22; refine (rcopy_any a _ _ (HA.out.below S.below) HF.out.1).mono ?_; rintro e w7 ⟨v, rfl, hR, hb⟩; obtain ⟨Ap, cp, rfl⟩ := hR.slice; refine ⟨_, rfl, S.step hb, fun _ => ?_⟩; have S' := S.addOp hb hR; clear S hb hR; have S := S'; clear S'; refine nr_ ?_; refine so_ 3 2 S ?_; clear S; intro _ S; refine so_ 4 1 S ?_; clear S; intro _ S; refine pu_ 5 ?_; refine done_ (by kernel_rfl) ?_; have S := Aside0.mk S)
      go_wp2
      exact bodyPost_ret (results_cct rfl _ _ _ _ 41 41 _ _ (0, 0) (0, 0) _ _ rfl (S.out.at_ 2 rfl) Tryd.underlying41 rfl (by kernel_rfl) rfl (S.out.at_ 1 rfl) Tryd.underlying41 rfl (by kernel_rfl)) rfl ⟨_, _, rfl, S.out.now.1.2, S.out.now.2, S.out.below⟩
   | true =>
    obtain rfl := hz6 rfl
    clear hz6
    rw [Bool.true_and]
    have hq : (on1 && !x4) = true ∨ (on1 && !x4) = false ∧ tg = true ∨ (on1 && !x4) = false ∧ tg = false := by cases on1 <;> cases x4 <;> cases tg <;> simp
    rcases hq with h | ⟨h, rfl⟩ | ⟨h, rfl⟩
    · rw [h, Bool.true_or, if_pos rfl]
      cases on1 <;> cases x4 <;> first | (exfalso; revert h; decide) | skip
      clear h
      go_enter Tryd.func98, Tryd.ntmps98
      go_wp2_with (first | ((with_reducible refine gate_box rfl ?_); refine ev_box S ?_; clear S; intro _ _ S) | ((with_reducible refine gate_new rfl ?_); refine ev_new S 41 zA ?_; clear S; intro _ _ S) | ((with_reducible refine gate_load rfl ?_); first | refine ev_load S ?_ | refine ev_fld S ?_) | ((with_reducible refine gate_st rfl ?_); refine ev_store S ?_; clear S; intro _ S) | (go_at_call 97; (with_reducible refine (excE_ref b a _ _ _ (HB.out.below S.out.below) (HA.out.below S.out.below) HGB.out HGA.out).mono ?_); rintro e w7 ⟨v, rfl, hR, hb⟩; obtain ⟨Ao, co, rfl⟩ := hR.slice; replace S := Aside0.mk (S.out.addOp hb hR); clear hb hR) | (go_at_call 108; (with_reducible refine (is_any a.f4.f0 a.f4.f1 b.f4.f0 b.f4.f1 _ _ HON.out).mono ?_); rintro e w7 ⟨rfl, hb⟩; replace S := Aside0.mk (S.out.step hb); clear hb))
      exact bodyPost_ret (results_cct rfl _ _ _ _ 41 41 zA zA (0, 0) (0, 0) _ _ rfl (S.out.at_ 2 rfl) Tryd.underlying41 rfl (by kernel_rfl) rfl (S.out.at_ 1 rfl) Tryd.underlying41 rfl (by kernel_rfl)) rfl ⟨.slice none 0 0, .slice none 0 0, rfl, opR_nil _ _, opR_nil _ _, S.out.below⟩
    · rw [h, if_pos (by rfl)]
      cases on1 with
      | false =>
       clear h
       go_enter Tryd.func98, Tryd.ntmps98
       go_wp2_with (first | ((with_reducible refine gate_box rfl ?_); refine ev_box S ?_; clear S; intro _ _ S) | ((with_reducible refine gate_new rfl ?_); refine ev_new S 41 zA ?_; clear S; intro _ _ S) | ((with_reducible refine gate_load rfl ?_); first | refine ev_load S ?_ | refine ev_fld S ?_) | ((with_reducible refine gate_st rfl ?_); refine ev_store S ?_; clear S; intro _ S) | (go_at_call 97; (with_reducible refine (excE_ref b a _ _ _ (HB.out.below S.out.below) (HA.out.below S.out.below) HGB.out HGA.out).mono ?_); rintro e w7 ⟨v, rfl, hR, hb⟩; obtain ⟨Ao, co, rfl⟩ := hR.slice; replace S := Aside0.mk (S.out.addOp hb hR); clear hb hR) | (go_at_call 108; (with_reducible refine (is_any a.f4.f0 a.f4.f1 b.f4.f0 b.f4.f1 _ _ HON.out).mono ?_); rintro e w7 ⟨rfl, hb⟩; replace S := Aside0.mk (S.out.step hb); clear hb) | (go_at_call 108; (with_reducible refine (is_any a.f4.f0 a.f4.f1 b.f0.f0.f0 b.f0.f0.f1 _ _ HTG.out).mono ?_); rintro e w7 ⟨rfl, hb⟩; replace S := Aside0.mk (S.out.step hb); clear hb))
       exact bodyPost_ret (results_cct rfl _ _ _ _ 41 41 zA zA (0, 0) (0, 0) _ _ rfl (S.out.at_ 2 rfl) Tryd.underlying41 rfl (by kernel_rfl) rfl (S.out.at_ 1 rfl) Tryd.underlying41 rfl (by kernel_rfl)) rfl ⟨.slice none 0 0, .slice none 0 0, rfl, opR_nil _ _, opR_nil _ _, S.out.below⟩
      | true =>
       cases x4
       · exfalso; revert h; decide
       clear h
       go_enter Tryd.func98, Tryd.ntmps98
       go_wp2_with (first | ((with_reducible refine gate_box rfl ?_); refine ev_box S ?_; clear S; intro _ _ S) | ((with_reducible refine gate_new rfl ?_); refine ev_new S 41 zA ?_; clear S; intro _ _ S) | ((with_reducible refine gate_load rfl ?_); first | refine ev_load S ?_ | refine ev_fld S ?_) | ((with_reducible refine gate_st rfl ?_); refine ev_store S ?_; clear S; intro _ S) | (go_at_call 97; (with_reducible refine (excE_ref b a _ _ _ (HB.out.below S.out.below) (HA.out.below S.out.below) HGB.out HGA.out).mono ?_); rintro e w7 ⟨v, rfl, hR, hb⟩; obtain ⟨Ao, co, rfl⟩ := hR.slice; replace S := Aside0.mk (S.out.addOp hb hR); clear hb hR) | (go_at_call 108; (with_reducible refine (is_any a.f4.f0 a.f4.f1 b.f4.f0 b.f4.f1 _ _ HON.out).mono ?_); rintro e w7 ⟨rfl, hb⟩; replace S := Aside0.mk (S.out.step hb); clear hb) | (go_at_call 108; (with_reducible refine (is_any a.f4.f0 a.f4.f1 b.f0.f0.f0 b.f0.f0.f1 _ _ HTG.out).mono ?_); rintro e w7 ⟨rfl, hb⟩; replace S := Aside0.mk (S.out.step hb); clear hb))
       exact bodyPost_ret (results_cct rfl _ _ _ _ 41 41 zA zA (0, 0) (0, 0) _ _ rfl (S.out.at_ 2 rfl) Tryd.underlying41 rfl (by kernel_rfl) rfl (S.out.at_ 1 rfl) Tryd.underlying41 rfl (by kernel_rfl)) rfl ⟨.slice none 0 0, .slice none 0 0, rfl, opR_nil _ _, opR_nil _ _, S.out.below⟩
    · rw [h, if_neg (by simp)]
      cases on1 with
      | false =>
       clear h
       go_enter Tryd.func98, Tryd.ntmps98
       go_wp2_with (first | ((with_reducible refine gate_box rfl ?_); refine ev_box S ?_; clear S; intro _ _ S) | ((with_reducible refine gate_new rfl ?_); refine ev_new S 41 zA ?_; clear S; intro _ _ S) | ((with_reducible refine gate_load rfl ?_); first | refine ev_load S ?_ | refine ev_fld S ?_) | ((with_reducible refine gate_st rfl ?_); refine ev_store S ?_; clear S; intro _ S) | (go_at_call 97; (with_reducible refine (excE_ref b a _ _ _ (HB.out.below S.out.below) (HA.out.below S.out.below) HGB.out HGA.out).mono ?_); rintro e w7 ⟨v, rfl, hR, hb⟩; obtain ⟨Ao, co, rfl⟩ := hR.slice; replace S := Aside0.mk (S.out.addOp hb hR); clear hb hR) | (go_at_call 108; (with_reducible refine (is_any a.f4.f0 a.f4.f1 b.f4.f0 b.f4.f1 _ _ HON.out).mono ?_); rintro e w7 ⟨rfl, hb⟩; replace S := Aside0.mk (S.out.step hb); clear hb) | (go_at_call 108; (with_reducible refine (is_any a.f4.f0 a.f4.f1 b.f0.f0.f0 b.f0.f0.f1 _ _ HTG.out).mono ?_); rintro e w7 ⟨rfl, hb⟩; replace S := Aside0.mk (S.out.step hb); clear hb))
       (refine rg_start (n := 6) (fun W => St w W _ _) [3, 4] S.out (fun _ h => h.drew) ?_; clear S; intro _ S; refine ld_ 0 0 S ?_; refine ld_ 1 4 S ?_; refine cl_ 2 #[.agg (opA a (.slice A a.f3.length c))] ?_ Tryd.func22; refine (rcopy_any a _ _ (HA.out.below S.below) HF.out.1).mono ?_; rintro e w7 ⟨v, rfl, hR, hb⟩; obtain ⟨Ap, cp, rfl⟩ := hR.slice; refine ⟨_, rfl, S.step hb, fun _ => ?_⟩; have S' := S.addOp hb hR; clear S hb hR; have S := S'; clear S'; refine nr_ ?_; refine so_ 3 2 S ?_; clear S; intro _ S; refine so_ 4 1 S ?_; clear S; intro _ S; refine pu_ 5 ?_; refine done_ (by kernel_rfl) ?_; have S := Aside0.mk S)
       go_wp2
       exact bodyPost_ret (results_cct rfl _ _ _ _ 41 41 _ _ (0, 0) (0, 0) _ _ rfl (S.out.at_ 2 rfl) Tryd.underlying41 rfl (by kernel_rfl) rfl (S.out.at_ 1 rfl) Tryd.underlying41 rfl (by kernel_rfl)) rfl ⟨_, _, rfl, S.out.now.1.2, S.out.now.2, S.out.below⟩
      | true =>
       cases x4
       · exfalso; revert h; decide
       clear h
       go_enter Tryd.func98, Tryd.ntmps98
       go_wp2_with (first | ((with_reducible refine gate_box rfl ?_); refine ev_box S ?_; clear S; intro _ _ S) | ((with_reducible refine gate_new rfl ?_); refine ev_new S 41 zA ?_; clear S; intro _ _ S) | ((with_reducible refine gate_load rfl ?_); first | refine ev_load S ?_ | refine ev_fld S ?_) | ((with_reducible refine gate_st rfl ?_); refine ev_store S ?_; clear S; intro _ S) | (go_at_call 97; (with_reducible refine (excE_ref b a _ _ _ (HB.out.below S.out.below) (HA.out.below S.out.below) HGB.out HGA.out).mono ?_); rintro e w7 ⟨v, rfl, hR, hb⟩; obtain ⟨Ao, co, rfl⟩ := hR.slice; replace S := Aside0.mk (S.out.addOp hb hR); clear hb hR) | (go_at_call 108; (with_reducible refine (is_any a.f4.f0 a.f4.f1 b.f4.f0 b.f4.f1 _ _ HON.out).mono ?_); rintro e w7 ⟨rfl, hb⟩; replace S := Aside0.mk (S.out.step hb); clear hb) | (go_at_call 108; (with_reducible refine (is_any a.f4.f0 a.f4.f1 b.f0.f0.f0 b.f0.f0.f1 _ _ HTG.out).mono ?_); rintro e w7 ⟨rfl, hb⟩; replace S := Aside0.mk (S.out.step hb); clear hb))
       (refine rg_start (n := 6) (fun W => St w W _ _) [3, 4] S.out (fun _ h => h.drew) ?_; clear S; intro _ S; refine ld_ 0 0 S ?_; refine ld_ 1 4 S ?_; refine cl_ 2 #[.agg (opA a (.slice A a.f3.length c))] ?_ Tryd.func22; refine (rcopy_any a _ _ (HA.out.below S.below) HF.out.1).mono ?_; rintro e w7 ⟨v, rfl, hR, hb⟩; obtain ⟨Ap, cp, rfl⟩ := hR.slice; refine ⟨_, rfl, S.step hb, fun _ => ?_⟩; have S' := S.addOp hb hR; clear S hb hR; have S := S'; clear S'; refine nr_ ?_; refine so_ 3 2 S ?_; clear S; intro _ S; refine so_ 4 1 S ?_; clear S; intro _ S; refine pu_ 5 ?_; refine done_ (by kernel_rfl) ?_; have S := Aside0.mk S)
       go_wp2
       exact bodyPost_ret (results_cct rfl _ _ _ _ 41 41 _ _ (0, 0) (0, 0) _ _ rfl (S.out.at_ 2 rfl) Tryd.underlying41 rfl (by kernel_rfl) rfl (S.out.at_ 1 rfl) Tryd.underlying41 rfl (by kernel_rfl)) rfl ⟨_, _, rfl, S.out.now.1.2, S.out.now.2, S.out.below⟩
 have k4' : (a.f0.f1 == 4) = false := beq_eq_false_iff_ne.mpr k4
 rw [if_neg (show ¬ trClash a b = true by unfold trClash; rw [k4']; simp)]
 clear hsta htg hon
 by_cases kb : b.f0.f1 = 1
 case neg =>
  rw [if_neg (fun h => kb h.1), if_neg (fun h => kb h.1)]
  have kb' : (b.f0.f1 != 1) = true := bne_iff_ne.mpr kb
  clear kb hkind h0 ga gb k4
  go_enter Tryd.func98, Tryd.ntmps98
  go_wp2_with (first | ((with_reducible refine gate_box rfl ?_); refine ev_box S ?_; clear S; intro _ _ S) | ((with_reducible refine gate_new rfl ?_); refine ev_new S 41 zA ?_; clear S; intro _ _ S) | ((with_reducible refine gate_load rfl ?_); first | refine ev_load S ?_ | refine ev_fld S ?_) | ((with_reducible refine gate_st rfl ?_); refine ev_store S ?_; clear S; intro _ S) | (go_at_call 97; (with_reducible refine (excE_ref b a _ _ _ (HB.out.below S.out.below) (HA.out.below S.out.below) HGB.out HGA.out).mono ?_); rintro e w7 ⟨v, rfl, hR, hb⟩; obtain ⟨Ao, co, rfl⟩ := hR.slice; replace S := Aside0.mk (S.out.addOp hb hR); clear hb hR) | (go_at_call 108; (with_reducible refine (is_any a.f4.f0 a.f4.f1 b.f4.f0 b.f4.f1 _ _ HON.out).mono ?_); rintro e w7 ⟨rfl, hb⟩; replace S := Aside0.mk (S.out.step hb); clear hb) | (go_at_call 108; (with_reducible refine (is_any a.f4.f0 a.f4.f1 b.f0.f0.f0 b.f0.f0.f1 _ _ HTG.out).mono ?_); rintro e w7 ⟨rfl, hb⟩; replace S := Aside0.mk (S.out.step hb); clear hb))
  (refine rg_start (n := 6) (fun W => St w W _ _) [3, 4] S.out (fun _ h => h.drew) ?_; clear S; intro _ S; refine ld_ 0 0 S ?_; refine ld_ 1 4 S ?_; refine cl_ 2 #[.agg (opA a (.slice A a.f3.length c))] ?_ Tryd.func22; refine (rcopy_any a _ _ (HA.out.below S.below) HF.out.1).mono ?_; rintro e w7 ⟨v, rfl, hR, hb⟩; obtain ⟨Ap, cp, rfl⟩ := hR.slice; refine ⟨_, rfl, S.step hb, fun _ => ?_⟩; have S' := S.addOp hb hR; clear S hb hR; have S := S'; clear S'; refine nr_ ?_; refine so_ 3 2 S ?_; clear S; intro _ S; refine so_ 4 1 S ?_; clear S; intro _ S; refine pu_ 5 ?_; refine done_ (by kernel_rfl) ?_; have S := Aside0.mk S)
  go_wp2
  exact bodyPost_ret (results_cct rfl _ _ _ _ 41 41 _ _ (0, 0) (0, 0) _ _ rfl (S.out.at_ 2 rfl) Tryd.underlying41 rfl (by kernel_rfl) rfl (S.out.at_ 1 rfl) Tryd.underlying41 rfl (by kernel_rfl)) rfl ⟨_, _, rfl, S.out.now.1.2, S.out.now.2, S.out.below⟩
 have kb' : (b.f0.f1 != 1) = false := bne_eq_false_iff_eq.mpr kb
 by_cases k1 : a.f0.f1 = 1
 case neg =>
  rw [if_neg (fun h => k1 h.2.1), if_pos ⟨kb, by omega⟩]
  have k1' : (a.f0.f1 != 1) = true := bne_iff_ne.mpr k1
  clear kb hkind h0 ga gb k4 k1
  by_cases hi : (incE a b false).2 = 0
  · rw [if_neg (fun h => h hi)]
    have hi' : ((incE a b false).2 != 0) = false := bne_eq_false_iff_eq.mpr hi
    clear hi
    go_enter Tryd.func98, Tryd.ntmps98
    go_wp2_with (first | ((with_reducible refine gate_box rfl ?_); refine ev_box S ?_; clear S; intro _ _ S) | ((with_reducible refine gate_new rfl ?_); refine ev_new S 41 zA ?_; clear S; intro _ _ S) | ((with_reducible refine gate_load rfl ?_); first | refine ev_load S ?_ | refine ev_fld S ?_) | ((with_reducible refine gate_st rfl ?_); refine ev_store S ?_; clear S; intro _ S) | (go_at_call 97; (with_reducible refine (excE_ref b a _ _ _ (HB.out.below S.out.below) (HA.out.below S.out.below) HGB.out HGA.out).mono ?_); rintro e w7 ⟨v, rfl, hR, hb⟩; obtain ⟨Ao, co, rfl⟩ := hR.slice; replace S := Aside0.mk (S.out.addOp hb hR); clear hb hR) | (go_at_call 108; (with_reducible refine (is_any a.f4.f0 a.f4.f1 b.f4.f0 b.f4.f1 _ _ HON.out).mono ?_); rintro e w7 ⟨rfl, hb⟩; replace S := Aside0.mk (S.out.step hb); clear hb) | (go_at_call 108; (with_reducible refine (is_any a.f4.f0 a.f4.f1 b.f0.f0.f0 b.f0.f0.f1 _ _ HTG.out).mono ?_); rintro e w7 ⟨rfl, hb⟩; replace S := Aside0.mk (S.out.step hb); clear hb) | (go_at_call 96; (with_reducible refine (incE_ref a b false _ _ _ (HA.out.below S.out.below) (HB.out.below S.out.below) HGA.out HGB.out).mono ?_); rintro e w7 ⟨v, rfl, hR, hb⟩; obtain ⟨Ai, ci, rfl⟩ := hR.slice; replace S := Aside0.mk (S.out.addOp hb hR); clear hb hR))
    (refine rg_start (n := 5) (fun W => ∃ c4 c5 : Array Value, (c4.size = 9 ∧ c5.size = 9) ∧ St w W [_, _, (_, 41, c5), (_, 41, c4), _, _] _) [] ⟨zA, zA, ⟨rfl, rfl⟩, S.out⟩ (fun _ ⟨c4, c5, z, h⟩ => ⟨c4, c5, z, h.drew⟩) ?_; clear S; rintro _ ⟨c4, c5, z, S⟩; refine ld_ 0 1 (bs := [_, _]) ⟨c4, c5, z, S⟩ ?_ (fun _ ⟨_, _, _, h⟩ => h.drop (List.sublist_append_left [_, _] _)); refine ld_ 1 0 (bs := [_, _]) ⟨c4, c5, z, S⟩ ?_ (fun _ ⟨_, _, _, h⟩ => h.drop (List.sublist_append_left [_, _] _)); refine re_ (rc_ 2 ?_ AllReadyL.nil); intro K hK; refine ks_ 3 S ?_ (hs := z.1); intro _ S'; refine hK.out _ _ ⟨_, _, ⟨(by rfl), z.2⟩, S'⟩ (fun _ => ?_); clear S hK; have S := S'; clear S'; refine re_ (rc_ 3 ?_ AllReadyL.nil); intro K hK; refine ks_ 2 S ?_ (hs := z.2); intro _ S'; refine hK.out _ _ ⟨_, _, ⟨(by rfl), (by rfl)⟩, S'⟩ (fun _ => ?_); clear S hK; have S := S'; clear S'; refine pu_ 4 ?_; refine done_ (by kernel_rfl) ?_; have S := Aside0.mk S)
    go_wp2
    exact bodyPost_ret (results_cct rfl _ _ _ _ 41 41 _ _ (0, 0) (0, 0) _ _ rfl (S.out.at_ 3 rfl) Tryd.underlying41 rfl (by kernel_rfl) rfl (S.out.at_ 2 rfl) Tryd.underlying41 rfl (by kernel_rfl)) rfl ⟨_, _, rfl, S.out.now.1.2, S.out.now.2, S.out.below⟩
  · rw [if_pos hi]
    have hi' : ((incE a b false).2 != 0) = true := bne_iff_ne.mpr hi
    clear hi
    go_enter Tryd.func98, Tryd.ntmps98
    go_wp2_with (first | ((with_reducible refine gate_box rfl ?_); refine ev_box S ?_; clear S; intro _ _ S) | ((with_reducible refine gate_new rfl ?_); refine ev_new S 41 zA ?_; clear S; intro _ _ S) | ((with_reducible refine gate_load rfl ?_); first | refine ev_load S ?_ | refine ev_fld S ?_) | ((with_reducible refine gate_st rfl ?_); refine ev_store S ?_; clear S; intro _ S) | (go_at_call 97; (with_reducible refine (excE_ref b a _ _ _ (HB.out.below S.out.below) (HA.out.below S.out.below) HGB.out HGA.out).mono ?_); rintro e w7 ⟨v, rfl, hR, hb⟩; obtain ⟨Ao, co, rfl⟩ := hR.slice; replace S := Aside0.mk (S.out.addOp hb hR); clear hb hR) | (go_at_call 108; (with_reducible refine (is_any a.f4.f0 a.f4.f1 b.f4.f0 b.f4.f1 _ _ HON.out).mono ?_); rintro e w7 ⟨rfl, hb⟩; replace S := Aside0.mk (S.out.step hb); clear hb) | (go_at_call 108; (with_reducible refine (is_any a.f4.f0 a.f4.f1 b.f0.f0.f0 b.f0.f0.f1 _ _ HTG.out).mono ?_); rintro e w7 ⟨rfl, hb⟩; replace S := Aside0.mk (S.out.step hb); clear hb) | (go_at_call 96; (with_reducible refine (incE_ref a b false _ _ _ (HA.out.below S.out.below) (HB.out.below S.out.below) HGA.out HGB.out).mono ?_); rintro e w7 ⟨v, rfl, hR, hb⟩; obtain ⟨Ai, ci, rfl⟩ := hR.slice; replace S := Aside0.mk (S.out.addOp hb hR); clear hb hR))
    exact bodyPost_ret (results_cct rfl _ _ _ _ 41 41 zA zA (0, 0) (0, 0) _ _ rfl (S.out.at_ 3 rfl) Tryd.underlying41 rfl (by kernel_rfl) rfl (S.out.at_ 2 rfl) Tryd.underlying41 rfl (by kernel_rfl)) rfl ⟨.slice none 0 0, .slice none 0 0, rfl, opR_nil _ _, opR_nil _ _, S.out.below⟩
 have k1' : (a.f0.f1 != 1) = false := bne_eq_false_iff_eq.mpr k1
 have hbw := gb.wid1 kb
 have haw := ga.wid1 k1
 have h3 := ga.noRanges (.inl k1)
 have hmv := ga.move0 k1
 have hstand := exc_stands k1 kb h0
 obtain ⟨r1, r2, r3⟩ := rows_tell2 a.f1 (wid a) b.f1 (wid b) ⟨haw.2.2.1, by omega⟩ ⟨haw.1, by omega⟩ ⟨hbw.2.2.1, by omega⟩ ⟨hbw.1, by omega⟩ haw.2.2.2 hstand
 have HW := Aside0.mk (with_ctx 0 1 a.f1 (wid a) haw.2.2.1 (by omega))
 have hcl : (ctxWith 1 a.f1 (wid a)).length ≤ 3 ∧ ∀ s ∈ ctxWith 1 a.f1 (wid a), Bd s := by
  unfold ctxWith
  by_cases hp : a.f1 > 0
  · rw [if_pos hp]
    refine ⟨by simp, ?_⟩
    simp only [List.cons_append, List.nil_append, List.mem_cons, List.not_mem_nil, or_false]
    rintro s (rfl | rfl | rfl) <;> exact ⟨by simp only; omega, by simp only; omega, by simp only; omega⟩
  · rw [if_neg hp]
    refine ⟨by simp, ?_⟩
    simp only [List.nil_append, List.mem_cons, List.not_mem_nil, or_false]
    rintro s (rfl | rfl) <;> exact ⟨by simp only; omega, by simp only; omega, by simp only; omega⟩
 have hw2 := with_is (ctxWith 1 a.f1 (wid a)) 2 b.f1 (wid b) ⟨hbw.2.2.1, by omega⟩ (by omega) hcl.2
 obtain ⟨LL, hLL⟩ : ∃ LL, LL = withL 2 b.f1 (wid b) (ctxWith 1 a.f1 (wid a)) 0 := ⟨_, rfl⟩
 rw [← hLL] at r1 r2 r3 hw2
 have HW2 := Aside0.mk hw2
 have hpl0 : redraftref05_place.f 101 LL 1 0 = some (placeL 1 0 LL 0) := by
  have := place_is LL 1 0 (by omega) (by omega) r3 LL.length 101 0 0 (by omega) (by omega) (by omega) (by omega)
  unfold redraftref05_place.f
  rw [List.drop_zero] at this
  exact this
 obtain ⟨pl, hpl⟩ : ∃ pl, pl = placeL 1 0 LL 0 := ⟨_, rfl⟩
 rw [← hpl] at hpl0 r1
 have hres : (if b.f0.f1 = 1 ∧ a.f0.f1 = 1 ∧ b.f1 ≤ a.f1 then (if (moveE a (a.f1 + wid b)).2 ≠ 0 then (z41, z41, (moveE a (a.f1 + wid b)).2) else ((excE b a).1, (moveE a (a.f1 + wid b)).1, 0))
  else if b.f0.f1 = 1 ∧ (a.f0.f1 = 2 ∨ a.f0.f1 = 3) then (if (incE a b false).2 ≠ 0 then (z41, z41, (incE a b false).2) else ((excE b a).1, (incE a b false).1, 0)) else ((excE b a).1, a, 0)) =
  if (moveE a pl).2 = 0 then ((excE b a).1, (moveE a pl).1, 0) else (z41, z41, (moveE a pl).2) := by
  by_cases q : b.f1 ≤ a.f1
  · rw [if_pos ⟨kb, k1, q⟩, r1, if_pos q]
    by_cases z : (moveE a (a.f1 + wid b)).2 = 0
    · rw [if_neg (fun h => h z), if_pos z]
    · rw [if_pos z, if_neg z]
  · rw [if_neg (fun h => q h.2.2), if_neg (by omega), r1, if_neg q, hmv, if_pos rfl]
 rw [hres]
 have HM := Aside0.mk (show ownE a = 0 ∧ a.f3 = [] ∧ (0 ≤ pl ∧ pl ≤ 4194304) ∧ (0 ≤ wid a ∧ wid a ≤ 1048576) from ⟨ga.own, h3, by rw [r1]; split <;> constructor <;> omega, by omega, by omega⟩)
 have HPL := Aside0.mk hpl0
 clear r1 r2 r3 hres hpl hLL hw2 hcl hstand h3 hmv haw hbw h0 k4 kb k1 hkind ga gb hpl0
 by_cases z : (moveE a pl).2 = 0
 · rw [if_pos z]
   have z' : ((moveE a pl).2 != 0) = false := bne_eq_false_iff_eq.mpr z
   clear z
   go_enter Tryd.func98, Tryd.ntmps98
   go_wp2_with (first | ((with_reducible refine gate_box rfl ?_); refine ev_box S ?_; clear S; intro _ _ S) | ((with_reducible refine gate_new rfl ?_); refine ev_new S 41 zA ?_; clear S; intro _ _ S) | ((with_reducible refine gate_load rfl ?_); first | refine ev_load S ?_ | refine ev_fld S ?_) | ((with_reducible refine gate_st rfl ?_); refine ev_store S ?_; clear S; intro _ S) | (go_at_call 97; (with_reducible refine (excE_ref b a _ _ _ (HB.out.below S.out.below) (HA.out.below S.out.below) HGB.out HGA.out).mono ?_); rintro e w7 ⟨v, rfl, hR, hb⟩; obtain ⟨Ao, co, rfl⟩ := hR.slice; replace S := Aside0.mk (S.out.addOp hb hR); clear hb hR) | (go_at_call 108; (with_reducible refine (is_any a.f4.f0 a.f4.f1 b.f4.f0 b.f4.f1 _ _ HON.out).mono ?_); rintro e w7 ⟨rfl, hb⟩; replace S := Aside0.mk (S.out.step hb); clear hb) | (go_at_call 108; (with_reducible refine (is_any a.f4.f0 a.f4.f1 b.f0.f0.f0 b.f0.f0.f1 _ _ HTG.out).mono ?_); rintro e w7 ⟨rfl, hb⟩; replace S := Aside0.mk (S.out.step hb); clear hb))
   (refine rg_start (n := 12) (fun W => St w W _ _) [] S.out (fun _ h => h.drew) ?_; clear S; intro _ S; refine pu_ 1 ?_; refine fl_ 2 4 S ?_; refine ld_ 3 4 S ?_; refine pu_ 6 ?_; refine fl_ 7 3 S ?_; refine ld_ 8 3 S ?_; refine cl_ 0 #[] ?_ Tryd.func104; refine (context_any _).mono ?_; rintro e w7 ⟨v, rfl, ⟨Ar, cr, rfl, _⟩, hR, hb⟩; refine ⟨_, rfl, S.step hb, fun _ => ?_⟩; have S' := S.addR hb hR; clear S hb hR; have S := S'; clear S'; refine nr_ ?_; refine cl_ 4 #[.agg (opA a (.slice A a.f3.length c))] ?_ Tryd.func105; refine (rwidth_any a _ _ (HA.out.below S.below) HF.out.1 HF.out.2.2.1).mono ?_; rintro e w7 ⟨rfl, hb⟩; have S' := S.step hb; refine ⟨_, rfl, S'.weak (fun _ h => h.1), fun _ => ?_⟩; clear S hb; have S := S'; clear S'; refine nr_ ?_; refine cl_ 5 #[.slice Ar 1 cr, .int .i64 1, .int .i64 a.f1, .int .i64 (wid a)] ?_ Tryd.func103; refine (with_any ctx0 _ _ _ 1 a.f1 (wid a) _ (rowC_of S.now.2) HW.out).mono ?_; rintro e w7 ⟨v, rfl, hR, hb⟩; obtain ⟨Aw, cw, rfl⟩ := Kd.R_slice hR; refine ⟨_, rfl, (S.step hb).weak (fun _ h => h.1), fun _ => ?_⟩; have S' := (S.weak (fun _ h => h.1)).addR hb hR; clear S hb hR; have S := S'; clear S'; refine nr_ ?_; refine cl_ 9 #[.agg (opA b (.slice B b.f3.length d))] ?_ Tryd.func105; refine (rwidth_any b _ _ (HB.out.below S.below) HF.out.2.1 HF.out.2.2.2).mono ?_; rintro e w7 ⟨rfl, hb⟩; have S' := S.step hb; refine ⟨_, rfl, S'.weak (fun _ h => h.1), fun _ => ?_⟩; clear S hb; have S := S'; clear S'; refine nr_ ?_; refine cl_ 10 #[.slice Aw (ctxWith 1 a.f1 (wid a)).length cw, .int .i64 2, .int .i64 b.f1, .int .i64 (wid b)] ?_ Tryd.func103; refine (with_any (ctxWith 1 a.f1 (wid a)) _ _ _ 2 b.f1 (wid b) _ (rowC_of S.now.2) HW2.out).mono ?_; rintro e w7 ⟨v, rfl, hR, hb⟩; obtain ⟨Al, cl, rfl⟩ := Kd.R_slice hR; refine ⟨_, rfl, (S.step hb).weak (fun _ h => h.1), fun _ => ?_⟩; have S' := (S.weak (fun _ h => h.1)).addR hb hR; clear S hb hR; have S := S'; clear S'; refine nr_ ?_; refine pu_ 11 ?_; refine done_ (by kernel_rfl) ?_; have S := Aside0.mk S)
   go_wp2_with (fail)
   refine rg_start (n := 10) (fun W => St w W _ _) [8] S.out (fun _ h => h.drew) ?_
   clear S
   intro _ S
   refine ld_ 0 4 S ?_; refine pu_ 1 ?_
   refine re_ (rc_ 2 ?_ (rc_ 7 ?_ AllReadyL.nil))
   · intro K hK; refine kc_ #[.slice Al LL.length cl, .int .i64 1, .int .i64 0] ?_ Tryd.func106; refine (place_any _ _ _ 1 0 pl _ (rowC_of S.now.2) HPL.out).mono ?_; rintro e_ w7 ⟨rfl, hb⟩; have S' := S.step hb; clear hb; refine ⟨_, rfl, hK.out _ _ S' (fun _ => ?_)⟩; clear hK; clear S; have S := S'; clear S'; refine nr_ ?_
     refine re_ (rc_ 3 ?_ (rc_ 7 ?_ AllReadyL.nil))
     · intro K hK; refine kc_ #[.agg (opA a (.slice A a.f3.length c)), .int .i64 pl] ?_ Tryd.func109; refine (rmoved_any a _ pl _ (HA.out.below S.below) HF.out.1 HM.out.1 HM.out.2.1 HM.out.2.2.1 HM.out.2.2.2).mono ?_; rintro e_ w7 ⟨v, rfl, hR, hb⟩; obtain ⟨Ai, ci, rfl⟩ := hR.slice; have S' := S.addOp hb hR; clear hb hR; refine ⟨_, rfl, hK.out _ _ (S'.weak fun _ h => h.1) (fun _ => ?_)⟩; clear hK; clear S; have S := S'; clear S'; refine nr_ ?_
       refine pu_ 4 ?_; refine pu_ 5 ?_; refine pu_ 6 ?_
       refine re_ (rc_ 7 ?_ AllReadyL.nil)
       intro K hK; refine kn_ 41 zA S ?_; intro _ _ S'; refine hK.out _ _ ((S'.drop (List.sublist_cons_self _ _)).weak fun _ h => h.1) (fun _ => ?_); clear hK; clear S; have S := S'; clear S'; refine nr_ ?_
       refine so_ 8 0 S ?_; clear S; intro _ S; refine pu_ 9 ?_; refine done_ (by kernel_rfl) ?_; have S := Aside0.mk S; replace S := Aside0.mk (S.out.weak (fun _ h => (show _ ∧ _ from ⟨h.1.1, h.2⟩)))
       go_wp2_with (fail)
       (refine rg_start (n := 5) (fun W => ∃ c4 c5 : Array Value, (c4.size = 9 ∧ c5.size = 9) ∧ St w W [_, _, (_, 41, c5), (_, 41, c4), _, _] _) [] ⟨zA, zA, ⟨rfl, rfl⟩, S.out⟩ (fun _ ⟨c4, c5, z, h⟩ => ⟨c4, c5, z, h.drew⟩) ?_; clear S; rintro _ ⟨c4, c5, z, S⟩; refine ld_ 0 1 (bs := [_, _]) ⟨c4, c5, z, S⟩ ?_ (fun _ ⟨_, _, _, h⟩ => h.drop (List.sublist_append_left [_, _] _)); refine ld_ 1 0 (bs := [_, _]) ⟨c4, c5, z, S⟩ ?_ (fun _ ⟨_, _, _, h⟩ => h.drop (List.sublist_append_left [_, _] _)); refine re_ (rc_ 2 ?_ AllReadyL.nil); intro K hK; refine ks_ 3 S ?_ (hs := z.1); intro _ S'; refine hK.out _ _ ⟨_, _, ⟨(by rfl), z.2⟩, S'⟩ (fun _ => ?_); clear S hK; have S := S'; clear S'; refine re_ (rc_ 3 ?_ AllReadyL.nil); intro K hK; refine ks_ 2 S ?_ (hs := z.2); intro _ S'; refine hK.out _ _ ⟨_, _, ⟨(by rfl), (by rfl)⟩, S'⟩ (fun _ => ?_); clear S hK; have S := S'; clear S'; refine pu_ 4 ?_; refine done_ (by kernel_rfl) ?_; have S := Aside0.mk S)
       go_wp2
       exact bodyPost_ret (results_cct rfl _ _ _ _ 41 41 _ _ (0, 0) (0, 0) _ _ rfl (S.out.at_ 3 rfl) Tryd.underlying41 rfl (by kernel_rfl) rfl (S.out.at_ 2 rfl) Tryd.underlying41 rfl (by kernel_rfl)) rfl ⟨_, _, rfl, S.out.now.1.2, S.out.now.2, S.out.below⟩
     · intro K hK; refine kn_ 41 zA S ?_; intro _ _ S'; refine hK.out _ _ (S'.drop (List.sublist_cons_self _ _)) (fun _ => ?_); clear hK; clear S; have S := S'; clear S'; refine nr_ ?_
       refine cl_ 3 #[.agg (opA a (.slice A a.f3.length c)), .int .i64 pl] ?_ Tryd.func109; refine (rmoved_any a _ pl _ (HA.out.below S.below) HF.out.1 HM.out.1 HM.out.2.1 HM.out.2.2.1 HM.out.2.2.2).mono ?_; rintro e_ w7 ⟨v, rfl, hR, hb⟩; obtain ⟨Ai, ci, rfl⟩ := hR.slice; have S' := S.addOp hb hR; clear hb hR; refine ⟨_, rfl, (S'.drop (List.sublist_cons_self _ _)).weak fun _ h => h.1, fun _ => ?_⟩; clear S; have S := S'; clear S'; refine nr_ ?_
       refine pu_ 4 ?_; refine pu_ 5 ?_; refine pu_ 6 ?_
       refine so_ 8 0 S ?_; clear S; intro _ S; refine pu_ 9 ?_; refine done_ (by kernel_rfl) ?_; have S := Aside0.mk S; replace S := Aside0.mk (S.out.weak (fun _ h => (show _ ∧ _ from ⟨h.1.1, h.2⟩)))
       go_wp2_with (fail)
       (refine rg_start (n := 5) (fun W => ∃ c4 c5 : Array Value, (c4.size = 9 ∧ c5.size = 9) ∧ St w W [_, _, (_, 41, c5), (_, 41, c4), _, _] _) [] ⟨zA, zA, ⟨rfl, rfl⟩, S.out⟩ (fun _ ⟨c4, c5, z, h⟩ => ⟨c4, c5, z, h.drew⟩) ?_; clear S; rintro _ ⟨c4, c5, z, S⟩; refine ld_ 0 1 (bs := [_, _]) ⟨c4, c5, z, S⟩ ?_ (fun _ ⟨_, _, _, h⟩ => h.drop (List.sublist_append_left [_, _] _)); refine ld_ 1 0 (bs := [_, _]) ⟨c4, c5, z, S⟩ ?_ (fun _ ⟨_, _, _, h⟩ => h.drop (List.sublist_append_left [_, _] _)); refine re_ (rc_ 2 ?_ AllReadyL.nil); intro K hK; refine ks_ 3 S ?_ (hs := z.1); intro _ S'; refine hK.out _ _ ⟨_, _, ⟨(by rfl), z.2⟩, S'⟩ (fun _ => ?_); clear S hK; have S := S'; clear S'; refine re_ (rc_ 3 ?_ AllReadyL.nil); intro K hK; refine ks_ 2 S ?_ (hs := z.2); intro _ S'; refine hK.out _ _ ⟨_, _, ⟨(by rfl), (by rfl)⟩, S'⟩ (fun _ => ?_); clear S hK; have S := S'; clear S'; refine pu_ 4 ?_; refine done_ (by kernel_rfl) ?_; have S := Aside0.mk S)
       go_wp2
       exact bodyPost_ret (results_cct rfl _ _ _ _ 41 41 _ _ (0, 0) (0, 0) _ _ rfl (S.out.at_ 3 rfl) Tryd.underlying41 rfl (by kernel_rfl) rfl (S.out.at_ 2 rfl) Tryd.underlying41 rfl (by kernel_rfl)) rfl ⟨_, _, rfl, S.out.now.1.2, S.out.now.2, S.out.below⟩
   · intro K hK; refine kn_ 41 zA S ?_; intro _ _ S'; refine hK.out _ _ (S'.drop (List.sublist_cons_self _ _)) (fun _ => ?_); clear hK; clear S; have S := S'; clear S'; refine nr_ ?_
     refine cl_ 2 #[.slice Al LL.length cl, .int .i64 1, .int .i64 0] ?_ Tryd.func106; refine (place_any _ _ _ 1 0 pl _ (rowC_of S.now.2) HPL.out).mono ?_; rintro e_ w7 ⟨rfl, hb⟩; have S' := S.step hb; clear hb; refine ⟨_, rfl, S'.drop (List.sublist_cons_self _ _), fun _ => ?_⟩; clear S; have S := S'; clear S'; refine nr_ ?_
     refine cl_ 3 #[.agg (opA a (.slice A a.f3.length c)), .int .i64 pl] ?_ Tryd.func109; refine (rmoved_any a _ pl _ (HA.out.below S.below) HF.out.1 HM.out.1 HM.out.2.1 HM.out.2.2.1 HM.out.2.2.2).mono ?_; rintro e_ w7 ⟨v, rfl, hR, hb⟩; obtain ⟨Ai, ci, rfl⟩ := hR.slice; have S' := S.addOp hb hR; clear hb hR; refine ⟨_, rfl, (S'.drop (List.sublist_cons_self _ _)).weak fun _ h => h.1, fun _ => ?_⟩; clear S; have S := S'; clear S'; refine nr_ ?_
     refine pu_ 4 ?_; refine pu_ 5 ?_; refine pu_ 6 ?_
     refine so_ 8 0 S ?_; clear S; intro _ S; refine pu_ 9 ?_; refine done_ (by kernel_rfl) ?_; have S := Aside0.mk S; replace S := Aside0.mk (S.out.weak (fun _ h => (show _ ∧ _ from ⟨h.1.1, h.2⟩)))
     go_wp2_with (fail)
     (refine rg_start (n := 5) (fun W => ∃ c4 c5 : Array Value, (c4.size = 9 ∧ c5.size = 9) ∧ St w W [_, _, (_, 41, c5), (_, 41, c4), _, _] _) [] ⟨zA, zA, ⟨rfl, rfl⟩, S.out⟩ (fun _ ⟨c4, c5, z, h⟩ => ⟨c4, c5, z, h.drew⟩) ?_; clear S; rintro _ ⟨c4, c5, z, S⟩; refine ld_ 0 1 (bs := [_, _]) ⟨c4, c5, z, S⟩ ?_ (fun _ ⟨_, _, _, h⟩ => h.drop (List.sublist_append_left [_, _] _)); refine ld_ 1 0 (bs := [_, _]) ⟨c4, c5, z, S⟩ ?_ (fun _ ⟨_, _, _, h⟩ => h.drop (List.sublist_append_left [_, _] _)); refine re_ (rc_ 2 ?_ AllReadyL.nil); intro K hK; refine ks_ 3 S ?_ (hs := z.1); intro _ S'; refine hK.out _ _ ⟨_, _, ⟨(by rfl), z.2⟩, S'⟩ (fun _ => ?_); clear S hK; have S := S'; clear S'; refine re_ (rc_ 3 ?_ AllReadyL.nil); intro K hK; refine ks_ 2 S ?_ (hs := z.2); intro _ S'; refine hK.out _ _ ⟨_, _, ⟨(by rfl), (by rfl)⟩, S'⟩ (fun _ => ?_); clear S hK; have S := S'; clear S'; refine pu_ 4 ?_; refine done_ (by kernel_rfl) ?_; have S := Aside0.mk S)
     go_wp2
     exact bodyPost_ret (results_cct rfl _ _ _ _ 41 41 _ _ (0, 0) (0, 0) _ _ rfl (S.out.at_ 3 rfl) Tryd.underlying41 rfl (by kernel_rfl) rfl (S.out.at_ 2 rfl) Tryd.underlying41 rfl (by kernel_rfl)) rfl ⟨_, _, rfl, S.out.now.1.2, S.out.now.2, S.out.below⟩
 · rw [if_neg z]
   have z' : ((moveE a pl).2 != 0) = true := bne_iff_ne.mpr z
   clear z
   go_enter Tryd.func98, Tryd.ntmps98
   go_wp2_with (first | ((with_reducible refine gate_box rfl ?_); refine ev_box S ?_; clear S; intro _ _ S) | ((with_reducible refine gate_new rfl ?_); refine ev_new S 41 zA ?_; clear S; intro _ _ S) | ((with_reducible refine gate_load rfl ?_); first | refine ev_load S ?_ | refine ev_fld S ?_) | ((with_reducible refine gate_st rfl ?_); refine ev_store S ?_; clear S; intro _ S) | (go_at_call 97; (with_reducible refine (excE_ref b a _ _ _ (HB.out.below S.out.below) (HA.out.below S.out.below) HGB.out HGA.out).mono ?_); rintro e w7 ⟨v, rfl, hR, hb⟩; obtain ⟨Ao, co, rfl⟩ := hR.slice; replace S := Aside0.mk (S.out.addOp hb hR); clear hb hR) | (go_at_call 108; (with_reducible refine (is_any a.f4.f0 a.f4.f1 b.f4.f0 b.f4.f1 _ _ HON.out).mono ?_); rintro e w7 ⟨rfl, hb⟩; replace S := Aside0.mk (S.out.step hb); clear hb) | (go_at_call 108; (with_reducible refine (is_any a.f4.f0 a.f4.f1 b.f0.f0.f0 b.f0.f0.f1 _ _ HTG.out).mono ?_); rintro e w7 ⟨rfl, hb⟩; replace S := Aside0.mk (S.out.step hb); clear hb))
   (refine rg_start (n := 12) (fun W => St w W _ _) [] S.out (fun _ h => h.drew) ?_; clear S; intro _ S; refine pu_ 1 ?_; refine fl_ 2 4 S ?_; refine ld_ 3 4 S ?_; refine pu_ 6 ?_; refine fl_ 7 3 S ?_; refine ld_ 8 3 S ?_; refine cl_ 0 #[] ?_ Tryd.func104; refine (context_any _).mono ?_; rintro e w7 ⟨v, rfl, ⟨Ar, cr, rfl, _⟩, hR, hb⟩; refine ⟨_, rfl, S.step hb, fun _ => ?_⟩; have S' := S.addR hb hR; clear S hb hR; have S := S'; clear S'; refine nr_ ?_; refine cl_ 4 #[.agg (opA a (.slice A a.f3.length c))] ?_ Tryd.func105; refine (rwidth_any a _ _ (HA.out.below S.below) HF.out.1 HF.out.2.2.1).mono ?_; rintro e w7 ⟨rfl, hb⟩; have S' := S.step hb; refine ⟨_, rfl, S'.weak (fun _ h => h.1), fun _ => ?_⟩; clear S hb; have S := S'; clear S'; refine nr_ ?_; refine cl_ 5 #[.slice Ar 1 cr, .int .i64 1, .int .i64 a.f1, .int .i64 (wid a)] ?_ Tryd.func103; refine (with_any ctx0 _ _ _ 1 a.f1 (wid a) _ (rowC_of S.now.2) HW.out).mono ?_; rintro e w7 ⟨v, rfl, hR, hb⟩; obtain ⟨Aw, cw, rfl⟩ := Kd.R_slice hR; refine ⟨_, rfl, (S.step hb).weak (fun _ h => h.1), fun _ => ?_⟩; have S' := (S.weak (fun _ h => h.1)).addR hb hR; clear S hb hR; have S := S'; clear S'; refine nr_ ?_; refine cl_ 9 #[.agg (opA b (.slice B b.f3.length d))] ?_ Tryd.func105; refine (rwidth_any b _ _ (HB.out.below S.below) HF.out.2.1 HF.out.2.2.2).mono ?_; rintro e w7 ⟨rfl, hb⟩; have S' := S.step hb; refine ⟨_, rfl, S'.weak (fun _ h => h.1), fun _ => ?_⟩; clear S hb; have S := S'; clear S'; refine nr_ ?_; refine cl_ 10 #[.slice Aw (ctxWith 1 a.f1 (wid a)).length cw, .int .i64 2, .int .i64 b.f1, .int .i64 (wid b)] ?_ Tryd.func103; refine (with_any (ctxWith 1 a.f1 (wid a)) _ _ _ 2 b.f1 (wid b) _ (rowC_of S.now.2) HW2.out).mono ?_; rintro e w7 ⟨v, rfl, hR, hb⟩; obtain ⟨Al, cl, rfl⟩ := Kd.R_slice hR; refine ⟨_, rfl, (S.step hb).weak (fun _ h => h.1), fun _ => ?_⟩; have S' := (S.weak (fun _ h => h.1)).addR hb hR; clear S hb hR; have S := S'; clear S'; refine nr_ ?_; refine pu_ 11 ?_; refine done_ (by kernel_rfl) ?_; have S := Aside0.mk S)
   go_wp2_with (fail)
   refine rg_start (n := 10) (fun W => St w W _ _) [8] S.out (fun _ h => h.drew) ?_
   clear S
   intro _ S
   refine ld_ 0 4 S ?_; refine pu_ 1 ?_
   refine re_ (rc_ 2 ?_ (rc_ 7 ?_ AllReadyL.nil))
   · intro K hK; refine kc_ #[.slice Al LL.length cl, .int .i64 1, .int .i64 0] ?_ Tryd.func106; refine (place_any _ _ _ 1 0 pl _ (rowC_of S.now.2) HPL.out).mono ?_; rintro e_ w7 ⟨rfl, hb⟩; have S' := S.step hb; clear hb; refine ⟨_, rfl, hK.out _ _ S' (fun _ => ?_)⟩; clear hK; clear S; have S := S'; clear S'; refine nr_ ?_
     refine re_ (rc_ 3 ?_ (rc_ 7 ?_ AllReadyL.nil))
     · intro K hK; refine kc_ #[.agg (opA a (.slice A a.f3.length c)), .int .i64 pl] ?_ Tryd.func109; refine (rmoved_any a _ pl _ (HA.out.below S.below) HF.out.1 HM.out.1 HM.out.2.1 HM.out.2.2.1 HM.out.2.2.2).mono ?_; rintro e_ w7 ⟨v, rfl, hR, hb⟩; obtain ⟨Ai, ci, rfl⟩ := hR.slice; have S' := S.addOp hb hR; clear hb hR; refine ⟨_, rfl, hK.out _ _ (S'.weak fun _ h => h.1) (fun _ => ?_)⟩; clear hK; clear S; have S := S'; clear S'; refine nr_ ?_
       refine pu_ 4 ?_; refine pu_ 5 ?_; refine pu_ 6 ?_
       refine re_ (rc_ 7 ?_ AllReadyL.nil)
       intro K hK; refine kn_ 41 zA S ?_; intro _ _ S'; refine hK.out _ _ ((S'.drop (List.sublist_cons_self _ _)).weak fun _ h => h.1) (fun _ => ?_); clear hK; clear S; have S := S'; clear S'; refine nr_ ?_
       refine so_ 8 0 S ?_; clear S; intro _ S; refine pu_ 9 ?_; refine done_ (by kernel_rfl) ?_; have S := Aside0.mk S; replace S := Aside0.mk (S.out.weak (fun _ h => (show _ ∧ _ from ⟨h.1.1, h.2⟩)))
       go_wp2_with (((with_reducible refine gate_st rfl ?_); refine ev_store S ?_; clear S; intro _ S))
       exact bodyPost_ret (results_cct rfl _ _ _ _ 41 41 zA zA (0, 0) (0, 0) _ _ rfl (S.out.at_ 3 rfl) Tryd.underlying41 rfl (by kernel_rfl) rfl (S.out.at_ 2 rfl) Tryd.underlying41 rfl (by kernel_rfl)) rfl ⟨.slice none 0 0, .slice none 0 0, rfl, opR_nil _ _, opR_nil _ _, S.out.below⟩
     · intro K hK; refine kn_ 41 zA S ?_; intro _ _ S'; refine hK.out _ _ (S'.drop (List.sublist_cons_self _ _)) (fun _ => ?_); clear hK; clear S; have S := S'; clear S'; refine nr_ ?_
       refine cl_ 3 #[.agg (opA a (.slice A a.f3.length c)), .int .i64 pl] ?_ Tryd.func109; refine (rmoved_any a _ pl _ (HA.out.below S.below) HF.out.1 HM.out.1 HM.out.2.1 HM.out.2.2.1 HM.out.2.2.2).mono ?_; rintro e_ w7 ⟨v, rfl, hR, hb⟩; obtain ⟨Ai, ci, rfl⟩ := hR.slice; have S' := S.addOp hb hR; clear hb hR; refine ⟨_, rfl, (S'.drop (List.sublist_cons_self _ _)).weak fun _ h => h.1, fun _ => ?_⟩; clear S; have S := S'; clear S'; refine nr_ ?_
       refine pu_ 4 ?_; refine pu_ 5 ?_; refine pu_ 6 ?_
       refine so_ 8 0 S ?_; clear S; intro _ S; refine pu_ 9 ?_; refine done_ (by kernel_rfl) ?_; have S := Aside0.mk S; replace S := Aside0.mk (S.out.weak (fun _ h => (show _ ∧ _ from ⟨h.1.1, h.2⟩)))
       go_wp2_with (((with_reducible refine gate_st rfl ?_); refine ev_store S ?_; clear S; intro _ S))
       exact bodyPost_ret (results_cct rfl _ _ _ _ 41 41 zA zA (0, 0) (0, 0) _ _ rfl (S.out.at_ 3 rfl) Tryd.underlying41 rfl (by kernel_rfl) rfl (S.out.at_ 2 rfl) Tryd.underlying41 rfl (by kernel_rfl)) rfl ⟨.slice none 0 0, .slice none 0 0, rfl, opR_nil _ _, opR_nil _ _, S.out.below⟩
   · intro K hK; refine kn_ 41 zA S ?_; intro _ _ S'; refine hK.out _ _ (S'.drop (List.sublist_cons_self _ _)) (fun _ => ?_); clear hK; clear S; have S := S'; clear S'; refine nr_ ?_
     refine cl_ 2 #[.slice Al LL.length cl, .int .i64 1, .int .i64 0] ?_ Tryd.func106; refine (place_any _ _ _ 1 0 pl _ (rowC_of S.now.2) HPL.out).mono ?_; rintro e_ w7 ⟨rfl, hb⟩; have S' := S.step hb; clear hb; refine ⟨_, rfl, S'.drop (List.sublist_cons_self _ _), fun _ => ?_⟩; clear S; have S := S'; clear S'; refine nr_ ?_
     refine cl_ 3 #[.agg (opA a (.slice A a.f3.length c)), .int .i64 pl] ?_ Tryd.func109; refine (rmoved_any a _ pl _ (HA.out.below S.below) HF.out.1 HM.out.1 HM.out.2.1 HM.out.2.2.1 HM.out.2.2.2).mono ?_; rintro e_ w7 ⟨v, rfl, hR, hb⟩; obtain ⟨Ai, ci, rfl⟩ := hR.slice; have S' := S.addOp hb hR; clear hb hR; refine ⟨_, rfl, (S'.drop (List.sublist_cons_self _ _)).weak fun _ h => h.1, fun _ => ?_⟩; clear S; have S := S'; clear S'; refine nr_ ?_
     refine pu_ 4 ?_; refine pu_ 5 ?_; refine pu_ 6 ?_
     refine so_ 8 0 S ?_; clear S; intro _ S; refine pu_ 9 ?_; refine done_ (by kernel_rfl) ?_; have S := Aside0.mk S; replace S := Aside0.mk (S.out.weak (fun _ h => (show _ ∧ _ from ⟨h.1.1, h.2⟩)))
     go_wp2_with (((with_reducible refine gate_st rfl ?_); refine ev_store S ?_; clear S; intro _ S))
     exact bodyPost_ret (results_cct rfl _ _ _ _ 41 41 zA zA (0, 0) (0, 0) _ _ rfl (S.out.at_ 3 rfl) Tryd.underlying41 rfl (by kernel_rfl) rfl (S.out.at_ 2 rfl) Tryd.underlying41 rfl (by kernel_rfl)) rfl ⟨.slice none 0 0, .slice none 0 0, rfl, opR_nil _ _, opR_nil _ _, S.out.below⟩
end Go.Proofs.YtloccjkcmlkifaaDoor
end
