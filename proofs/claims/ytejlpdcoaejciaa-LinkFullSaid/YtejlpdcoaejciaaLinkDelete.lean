/- slices.Delete of one flight, by its contract. -/
import Derived.Test.YtejlpdcoaejciaaLinkCopy
import Derived.Deep.RegionLaw
import Derived.Laws.IdiomCopy
import Derived.Lib.SliceRun
namespace Go.Proofs.Ytejlpdcoaejciaa
open Go.RowKit

theorem laid_get {α : Type} (L vs : List α) (o j : Nat) (h : o + vs.length ≤ L.length) : (L.take o ++ (vs ++ L.drop (o + vs.length)))[j]? = if j < o then L[j]? else if j < o + vs.length then vs[j - o]? else L[j]? := by
  have hl : (L.take o).length = o := by rw [List.length_take]; omega
  by_cases h1 : j < o
  · rw [if_pos h1, List.getElem?_append_left (by omega), List.getElem?_take, if_pos h1]
  · rw [if_neg h1, List.getElem?_append_right (by omega), hl]
    by_cases h2 : j < o + vs.length
    · rw [if_pos h2, List.getElem?_append_left (by omega)]
    · rw [if_neg h2, List.getElem?_append_right (by omega), List.getElem?_drop]
      congr 1
      omega

theorem heap_setCells {b : Nat} {t : TypeId} {fr : Nat × Nat} : ∀ (vs : List Value) (o : Nat) (w : World) (cur : Array Value), w.heap[b]? = some (.cells cur t fr) → o + vs.length ≤ cur.size →
    (w.setCells b o vs).heap[b]? = some (.cells (cur.toList.take o ++ (vs ++ cur.toList.drop (o + vs.length))).toArray t fr)
  | [], o, w, cur, h, _ => by
    rw [World.setCells, h, List.nil_append, List.length_nil, Nat.add_zero, List.take_append_drop]
  | v :: r, o, w, cur, h, hs => by
    rw [List.length_cons] at hs
    rw [World.setCells]
    have h1 : (w.setCell ⟨b, o, none⟩ v).heap[b]? = some (.cells (cur.setIfInBounds o v) t fr) := by simp [World.setCell, Array.getElem?_modify, h]
    rw [heap_setCells r (o + 1) _ _ h1 (by simp; omega)]
    congr 3
    have hcl : cur.toList.length = cur.size := by simp
    rw [Array.toList_setIfInBounds]
    apply List.ext_getElem?
    intro j
    rw [laid_get _ _ _ _ (by rw [List.length_set]; omega), laid_get _ _ _ _ (by rw [List.length_cons]; omega), List.length_cons]
    by_cases hj : j < o
    · rw [if_pos (by omega), if_pos hj, List.getElem?_set_ne (by omega)]
    · by_cases hjo : j = o
      · subst hjo
        rw [if_pos (by omega), if_neg (by omega), if_pos (by omega), List.getElem?_set_self (by omega), Nat.sub_self]
        rfl
      · rw [if_neg (by omega), if_neg hj]
        by_cases hr : j < o + 1 + r.length
        · rw [if_pos hr, if_pos (by omega), show j - o = (j - (o + 1)) + 1 by omega, List.getElem?_cons_succ]
        · rw [if_neg hr, if_neg (by omega), List.getElem?_set_ne (by omega)]

/-- Cells are laid over a row of the call's own. -/
theorem own_cells {w : World} {base : Nat} {e : TypeId} {size b n cap : Nat} {xs : List Value} (h : w.ownsRow base e size (.slice (some ⟨b, 0, none⟩) n cap) n xs) (o : Nat) (vs : List Value) (ho : o + vs.length ≤ n * size) :
    (w.setCells b o vs).ownsRow base e size (.slice (some ⟨b, 0, none⟩) n cap) n (xs.take o ++ (vs ++ xs.drop (o + vs.length))) := by
  obtain ⟨hx, h2⟩ := h
  rcases h2 with ⟨h2, _⟩ | ⟨g, cap', cur, h2, hg, hh, h3, h4, h5, h6⟩
  · cases h2
  · simp only [Value.slice.injEq, Option.some.injEq, Addr.mk.injEq] at h2
    obtain ⟨⟨rfl, _⟩, _, rfl⟩ := h2
    have hcs : n * size ≤ cur.size := by rw [h5]; exact Nat.mul_le_mul_right _ h3
    have hcl : cur.toList.length = cur.size := by simp
    refine ⟨by simp [hx]; omega, .inr ⟨b, cap, _, rfl, hg, heap_setCells vs o w cur hh (by omega), h3, h4, ?_, ?_⟩⟩
    · simp; omega
    · rw [show ((cur.toList.take o ++ (vs ++ cur.toList.drop (o + vs.length))).toArray).toList = cur.toList.take o ++ (vs ++ cur.toList.drop (o + vs.length)) from rfl]
      apply List.ext_getElem?
      intro j
      rw [List.getElem?_take, laid_get _ _ _ _ (by omega), laid_get _ _ _ _ (by omega), ← h6, List.getElem?_take]
      by_cases hj : j < n * size
      · rw [if_pos hj, if_pos hj]
      · rw [if_neg hj, if_neg hj, if_neg (by omega), if_neg (by omega)]
/-- A shorter row. -/
theorem own_shorter {w : World} {base : Nat} {e : TypeId} {size b n m cap : Nat} {xs : List Value} (h : w.ownsRow base e size (.slice (some ⟨b, 0, none⟩) n cap) n xs) (hm : m ≤ n) : w.ownsRow base e size (.slice (some ⟨b, 0, none⟩) m cap) m (xs.take (m * size)) := by
  obtain ⟨hx, h2⟩ := h
  have hms : m * size ≤ n * size := Nat.mul_le_mul_right _ hm
  rcases h2 with ⟨h2, _⟩ | ⟨g, cap', cur, h2, hg, hh, h3, h4, h5, h6⟩
  · cases h2
  · simp only [Value.slice.injEq, Option.some.injEq, Addr.mk.injEq] at h2
    obtain ⟨⟨rfl, _⟩, _, rfl⟩ := h2
    refine ⟨by rw [List.length_take]; omega, .inr ⟨b, cap, cur, rfl, hg, hh, by omega, h4, h5, ?_⟩⟩
    rw [← h6, List.take_take, Nat.min_eq_left hms]
def zeroF : List Value := [.int .i64 0, .int .i64 0, .int .i64 0, .slice none 0 0, .bool false]
theorem run_clear_flight (w : World) (ty : TypeId) (b o c : Nat) (hc : ∀ j, j < 5 → (w.cell? ⟨b, o + j, none⟩).isSome = true) (hf : ∀ j, j < 5 → w.frozen? ⟨b, o + j, none⟩ = false) :
    (Builtin.clear_ #[61] ty #[.slice (some ⟨b, o, none⟩) 1 c]).run Try.prog w = .ok (.tuple #[]) (w.setCells b o zeroF) := by
  have hst := run_storeCells_cells (P := Try.prog) b o zeroF 0 w (by simpa [zeroF] using hc) (by simpa [zeroF] using hf) (by intro v hv; simp [zeroF] at hv; rcases hv with rfl | rfl | rfl <;> rfl)
  simp only [Nat.add_zero] at hst
  have hzc : (Builtin.zeroCells (Value.agg #[.int .i64 0, .int .i64 0, .int .i64 0, .slice none 0 0, .bool false]).cells 1).toList = zeroF := by kernel_rfl
  simp [Builtin.clear_, run_underlying Try.underlying61, hzc, hst]
theorem chg_setCells {S : Nat → Prop} {a : World} {b : Nat} (hb : S b) : ∀ (vs : List Value) (o : Nat) (w : World), Chg S a w → Chg S a (w.setCells b o vs)
  | [], _, _, h => h
  | v :: r, o, _, h => chg_setCells hb r (o + 1) _ (h.setCell (p := ⟨b, o, none⟩) (.inl hb) v)
theorem laid_take {α : Type} (L vs : List α) (o k : Nat) (h : o + vs.length ≤ L.length) (hk : k ≤ o) : (L.take o ++ (vs ++ L.drop (o + vs.length))).take k = L.take k := by
  apply List.ext_getElem?
  intro j
  rw [List.getElem?_take, List.getElem?_take]
  by_cases hj : j < k
  · rw [if_pos hj, if_pos hj, laid_get _ _ _ _ h, if_pos (by omega)]
  · rw [if_neg hj, if_neg hj]
theorem fflat_drop (fs : List FlightR) (i : Nat) : (fflat fs).drop (i * 5) = fflat (fs.drop i) := by
  induction fs generalizing i with
  | nil => simp [fflat]
  | cons f fs ih =>
    cases i with
    | zero => simp
    | succ i =>
      rw [show fflat (f :: fs) = fcells f ++ fflat fs from rfl, List.drop_succ_cons, ← ih i, show (i + 1) * 5 = (fcells f).length + i * 5 by simp [fcells]; omega, List.drop_append]
      simp
theorem fflat_take (fs : List FlightR) (i : Nat) : (fflat fs).take (i * 5) = fflat (fs.take i) := by
  have h := fflat_append (fs.take i) (fs.drop i)
  rw [List.take_append_drop] at h
  rw [h]
  by_cases hi : i ≤ fs.length
  · rw [List.take_left' (by rw [fflat_len, List.length_take, Nat.min_eq_left hi])]
  · rw [List.drop_of_length_le (by omega), show fflat ([] : List FlightR) = [] from rfl, List.append_nil, List.take_of_length_le (by rw [fflat_len, List.length_take]; omega)]

set_option maxHeartbeats 800000 in
set_option maxRecDepth 100000 in
theorem delF_any (base b c i : Nat) (fs : List FlightR) (w : World) (h : w.ownsRow base 82 5 (.slice (some ⟨b, 0, none⟩) fs.length c) fs.length (fflat fs)) (hi : i < fs.length) (hn : fs.length ≤ 1048577) (hv : ∀ f ∈ fs, ∃ A n c, f.v = .slice A n c) :
    Calls Try.prog 54 #[.slice (some ⟨b, 0, none⟩) fs.length c, .int .i64 (i : Int), .int .i64 ((i : Int) + 1)] w fun e w' => e = .returned (.slice (some ⟨b, 0, none⟩) (fs.length - 1) c) ∧ w'.ownsRow base 82 5 (.slice (some ⟨b, 0, none⟩) (fs.length - 1) c) (fs.length - 1) (fflat (fs.eraseIdx i)) ∧ Chg (fun k => k = b) w w' := by
  obtain ⟨n, hn'⟩ : ∃ n, n = fs.length := ⟨_, rfl⟩
  rw [← hn'] at h hn hi ⊢
  obtain ⟨q, rfl⟩ : ∃ q, n = q + 1 := ⟨n - 1, by omega⟩
  rw [Nat.add_sub_cancel]
  have hnc : q + 1 ≤ c := by
    rcases h.2 with ⟨h', _⟩ | ⟨g, cap, cur, h', _, _, h1, _⟩
    · cases h'
    · simp only [Value.slice.injEq] at h'; omega
  have hbl : b < w.heap.size := (h.lt b rfl).2
  have hcell : ∀ j u, (fflat fs)[j]? = some u → w.cell? ⟨b, j, none⟩ = some u := fun j u hu => by
    have hj : j < (fflat fs).length := (List.getElem?_eq_some_iff.1 hu).1
    rw [fflat_len, ← hn'] at hj
    rw [h.cellAt j hj, hu]
  have hfr := h.frozenAt
  obtain ⟨m, hm⟩ : ∃ m, m = q - i := ⟨_, rfl⟩
  obtain ⟨news, hnews⟩ : ∃ news, news = fflat (fs.drop (i + 1)) := ⟨_, rfl⟩
  have hnl : news.length = m * 5 := by rw [hnews, fflat_len, List.length_drop, ← hn', hm]; omega
  have hnd : news = (fflat fs).drop ((i + 1) * 5) := by rw [hnews, fflat_drop]
  have hsrc : ∀ j u, news[j]? = some u → w.drew.cell? ((⟨b, (i + 1) * 5, none⟩ : Addr).add j) = some u := fun j u hu => by
    have ha : (⟨b, (i + 1) * 5, none⟩ : Addr).add j = ⟨b, (i + 1) * 5 + j, none⟩ := by unfold Addr.add; split <;> simp_all
    rw [ha, World.cell?_drew]
    rw [hnd, List.getElem?_drop] at hu
    exact hcell _ _ hu
  have hsrc0 : m = 0 → ∀ j u, news[j]? = some u → w.drew.cell? ((⟨b, 0, none⟩ : Addr).add j) = some u := fun h0 j u hu => by
    have hnil : news = [] := List.eq_nil_of_length_eq_zero (by rw [hnl, h0])
    rw [hnil] at hu
    simp at hu
  have hone : ∀ u ∈ news, u.oneCell' = true := by
    rw [hnews]
    intro u hu
    obtain ⟨f, hf, hu⟩ := List.mem_flatMap.1 hu
    obtain ⟨A, k, c', hfv⟩ := hv f (List.mem_of_mem_drop hf)
    simp only [fcells, hfv, List.mem_cons, List.not_mem_nil, or_false] at hu
    rcases hu with rfl | rfl | rfl | rfl | rfl <;> rfl
  have hspare : ∀ j, j < news.length → (w.drew.cell? ⟨b, 0 + i * 5 + j, none⟩).isSome = true ∧ w.drew.frozen? ⟨b, 0 + i * 5 + j, none⟩ = false := fun j hj => by
    rw [hnl] at hj
    rw [World.cell?_drew, World.frozen?_drew, h.cellAt _ (by omega)]
    exact ⟨by rw [List.getElem?_eq_getElem (by rw [fflat_len, ← hn']; omega)]; rfl, hfr _⟩
  have hown := own_cells (w := w.drew) (h.drew) (i * 5) news (by rw [hnl]; omega)
  obtain ⟨i0, hi0, hy0, hy1, hy2⟩ := info_parts flightinfo
  have him1 : i + m ≤ q := by omega
  have him2 : q ≤ i + m := by omega
  have hii : ((i : Int) == (i : Int) + 1) = false := by rw [beq_eq_false_iff_ne]; omega
  have hini : (i : Int) ≤ (q : Int) := by omega
  have HSRC := Lib.hid hsrc
  have HSRC0 := Lib.hid hsrc0
  have HONE := Lib.hid hone
  have HSP := Lib.hid hspare
  have HOWN := Lib.hid hown
  have HO := Lib.hid h
  have HN := Lib.hid hn'
  have HNL := Lib.hid hnl
  have HNW := Lib.hid hnews
  have HND := Lib.hid hnd
  have HM := Lib.hid hm
  clear h hn' hcell hfr hm hnews hnl hnd hsrc hsrc0 hone hspare hown
  have hci : ¬ c = i := by omega
  have hic : i ≤ c := by omega
  have hi1n : i ≤ q := by omega
  have hi1c : i + 1 ≤ c := by omega
  have hi10 : (0 : Int) ≤ (i : Int) + 1 := by omega
  by_cases hci1 : c = i + 1
  · obtain rfl : i = q := by omega
    subst hci1
    have hm0 : m = 0 := by omega
    have hq1 : (i : Int) ≤ (i : Int) + 1 := by omega
    have hs0 := HSRC0.out hm0
    have hl0 : news.length = 0 * 5 := by rw [HNL.out, hm0]
    have HS0 := Lib.hid hs0
    have HL0 := Lib.hid hl0
    have HM0 := Lib.hid hm0
    clear hm0 hs0 hl0 him1 him2 hic hi1n hi1c hci
    go_enter Try.func54, Try.ntmps54
    go_wp2
    go_region_law ((refine step_append_room (by rfl) _ _ _ (by rfl) 82 i0 5 Try.underlying61 hi0 hy1 b 0 i (i + 1) (by rfl) ⟨b, 0, none⟩ 0 0 news (by rfl) HL0.out HS0.out HONE.out (by omega) HSP.out ?_))
    have h3 := HOWN.out
    try rw [Nat.zero_add]
    have hC3 := Lib.hid (chg_setCells (S := fun k => k = b) rfl news (i * 5) w.drew ((Chg.refl _ w).drew))
    generalize w.drew.setCells b (i * 5) news = w3 at h3 hC3 ⊢
    have hlen3 : i * 5 + zeroF.length ≤ (i + 1) * 5 := by simp [zeroF]; omega
    have h4 := own_cells h3 (i * 5) zeroF hlen3
    have h5 := own_shorter h4 (m := i) (by omega)
    have hxl : (fflat fs).length = (i + 1) * 5 := by rw [fflat_len, ← HN.out]
    have hkey : (((fflat fs).take (i * 5) ++ (news ++ (fflat fs).drop (i * 5 + news.length))).take (i * 5) ++ (zeroF ++ ((fflat fs).take (i * 5) ++ (news ++ (fflat fs).drop (i * 5 + news.length))).drop (i * 5 + zeroF.length))).take (i * 5) = fflat (fs.eraseIdx i) := by
      rw [laid_take _ _ _ _ (by rw [List.length_append, List.length_append, List.length_take, List.length_drop, hxl, HNL.out]; have := HM0.out; simp [zeroF]; omega) (Nat.le_refl _)]
      rw [← List.append_assoc, List.take_append_of_le_length (by rw [List.length_append, List.length_take, hxl, HNL.out]; have := HM0.out; omega), List.take_of_length_le (by rw [List.length_append, List.length_take, hxl, HNL.out]; have := HM0.out; omega)]
      rw [HNW.out, fflat_take, ← fflat_append, List.eraseIdx_eq_take_drop_succ]
    rw [hkey] at h5
    have hc5 : ∀ j, j < 5 → (w3.cell? ⟨b, i * 5 + j, none⟩).isSome = true := fun j hj => by
      rw [h3.cellAt _ (by omega), List.getElem?_eq_getElem (by have := h3.1; omega)]; rfl
    have hf5 : ∀ j, j < 5 → w3.frozen? ⟨b, i * 5 + j, none⟩ = false := fun j _ => h3.frozenAt _
    have kc := run_clear_flight w3 0 b (i * 5) 1 hc5 hf5
    have hC4 := Lib.hid (chg_setCells (S := fun k => k = b) rfl zeroF (i * 5) w3 hC3.out)
    have H5 := Lib.hid h5
    clear h3 h4 h5 hkey hxl hlen3 hc5 hf5
    go_wp2
    go_ret
    exact ⟨rfl, H5.out, hC4.out⟩
  · go_enter Try.func54, Try.ntmps54
    go_wp2
    go_region_law ((refine step_append_room (by rfl) _ _ _ (by rfl) 82 i0 5 Try.underlying61 hi0 hy1 b 0 i c (by rfl) ⟨b, (i + 1) * 5, none⟩ (q - i) (c - (i + 1)) news (by rfl) (by rw [← HM.out]; exact HNL.out) HSRC.out HONE.out (by omega) HSP.out ?_))
    have h3 := HOWN.out
    try rw [Nat.zero_add]
    have hC3 := Lib.hid (chg_setCells (S := fun k => k = b) rfl news (i * 5) w.drew ((Chg.refl _ w).drew))
    generalize w.drew.setCells b (i * 5) news = w3 at h3 hC3 ⊢
    have hlen3 : q * 5 + zeroF.length ≤ (q + 1) * 5 := by simp [zeroF]; omega
    have h4 := own_cells h3 (q * 5) zeroF hlen3
    have h5 := own_shorter h4 (m := q) (by omega)
    have hxl : (fflat fs).length = (q + 1) * 5 := by rw [fflat_len, ← HN.out]
    have hkey : (((fflat fs).take (i * 5) ++ (news ++ (fflat fs).drop (i * 5 + news.length))).take (q * 5) ++ (zeroF ++ ((fflat fs).take (i * 5) ++ (news ++ (fflat fs).drop (i * 5 + news.length))).drop (q * 5 + zeroF.length))).take (q * 5) = fflat (fs.eraseIdx i) := by
      rw [laid_take _ _ _ _ (by rw [List.length_append, List.length_append, List.length_take, List.length_drop, hxl, HNL.out]; simp [zeroF]; omega) (Nat.le_refl _)]
      rw [← List.append_assoc, List.take_append_of_le_length (by rw [List.length_append, List.length_take, hxl, HNL.out]; omega), List.take_of_length_le (by rw [List.length_append, List.length_take, hxl, HNL.out]; omega)]
      rw [HNW.out, fflat_take, ← fflat_append, List.eraseIdx_eq_take_drop_succ]
    rw [hkey] at h5
    have hc5 : ∀ j, j < 5 → (w3.cell? ⟨b, q * 5 + j, none⟩).isSome = true := fun j hj => by
      rw [h3.cellAt _ (by omega), List.getElem?_eq_getElem (by have := h3.1; omega)]; rfl
    have hf5 : ∀ j, j < 5 → w3.frozen? ⟨b, q * 5 + j, none⟩ = false := fun j _ => h3.frozenAt _
    have kc := run_clear_flight w3 0 b (q * 5) (c - q) hc5 hf5
    have hC4 := Lib.hid (chg_setCells (S := fun k => k = b) rfl zeroF (q * 5) w3 hC3.out)
    have H5 := Lib.hid h5
    have hcq : ¬ c = q := by omega
    have hqi : (q : Int) + 1 ≤ (c : Int) := by omega
    clear h3 h4 h5 hkey hxl hlen3 hc5 hf5
    go_wp2
    go_ret
    exact ⟨rfl, H5.out, hC4.out⟩
end Go.Proofs.Ytejlpdcoaejciaa
