/- What Scan and Feed answer, as plain functions: no Go in sight. -/
import Derived.Test.YtooagpjfcnpheaaDoorFlipLaw
namespace Go.Proofs.YtooagpjfcnpheaaDoor

/-- What stands behind bytes changes nothing, unless they are too short. -/
theorem ends_append (l t : List UInt8) (h : (ends l).2 ≠ 90) : ends (l ++ t) = ends l ∧ ((ends l).2 = 0 → body (l ++ t) = body l) := by
  by_cases c1 : l.length < 1
  · exact absurd (by unfold ends; rw [if_pos c1]) h
  have g0 : (l ++ t).getD 0 0 = l.getD 0 0 := getD_append_left (by omega)
  by_cases c2 : l.getD 0 0 ≠ 199
  · have e1 : ends l = (0, 91) := by unfold ends; rw [if_neg c1, if_pos c2]
    have e2 : ends (l ++ t) = (0, 91) := by unfold ends; rw [if_neg (by rw [List.length_append]; omega), if_pos (by rw [g0]; exact c2)]
    rw [e1, e2]; exact ⟨rfl, fun h => by cases h⟩
  by_cases c3 : l.length < 2
  · exact absurd (by unfold ends; rw [if_neg c1, if_neg c2, if_pos c3]) h
  have g1 : (l ++ t).getD 1 0 = l.getD 1 0 := getD_append_left (by omega)
  by_cases c4 : l.getD 1 0 ≠ 157
  · have e1 : ends l = (0, 91) := by unfold ends; rw [if_neg c1, if_neg c2, if_neg c3, if_pos c4]
    have e2 : ends (l ++ t) = (0, 91) := by unfold ends; rw [if_neg (by rw [List.length_append]; omega), if_neg (by rw [g0]; exact c2), if_neg (by rw [List.length_append]; omega), if_pos (by rw [g1]; exact c4)]
    rw [e1, e2]; exact ⟨rfl, fun h => by cases h⟩
  by_cases c5 : l.length < 8
  · exact absurd (by unfold ends; rw [if_neg c1, if_neg c2, if_neg c3, if_neg c4, if_pos c5]) h
  have hnot : notIs (l ++ t) ↔ notIs l := by
    unfold notIs
    rw [getD_append_left (by omega), getD_append_left (by omega), getD_append_left (by omega), getD_append_left (by omega), getD_append_left (by omega), getD_append_left (by omega)]
  have hsz : size3 (l ++ t) = size3 l := by
    unfold size3
    rw [getD_append_left (by omega), getD_append_left (by omega), getD_append_left (by omega)]
  by_cases c6 : ¬ notIs l
  · have e1 : ends l = (0, 91) := by unfold ends; rw [if_neg c1, if_neg c2, if_neg c3, if_neg c4, if_neg c5, if_pos c6]
    have e2 : ends (l ++ t) = (0, 91) := by unfold ends; rw [if_neg (by rw [List.length_append]; omega), if_neg (by rw [g0]; exact c2), if_neg (by rw [List.length_append]; omega), if_neg (by rw [g1]; exact c4), if_neg (by rw [List.length_append]; omega), if_pos (by rw [hnot]; exact c6)]
    rw [e1, e2]; exact ⟨rfl, fun h => by cases h⟩
  by_cases c7 : 131072 < size3 l
  · have e1 : ends l = (0, 92) := by unfold ends; rw [if_neg c1, if_neg c2, if_neg c3, if_neg c4, if_neg c5, if_neg c6, if_pos c7]
    have e2 : ends (l ++ t) = (0, 92) := by unfold ends; rw [if_neg (by rw [List.length_append]; omega), if_neg (by rw [g0]; exact c2), if_neg (by rw [List.length_append]; omega), if_neg (by rw [g1]; exact c4), if_neg (by rw [List.length_append]; omega), if_neg (by rw [hnot]; exact c6), if_pos (by rw [hsz]; exact c7)]
    rw [e1, e2]; exact ⟨rfl, fun h => by cases h⟩
  by_cases c8 : l.length < 12 + size3 l
  · exact absurd (by unfold ends; rw [if_neg c1, if_neg c2, if_neg c3, if_neg c4, if_neg c5, if_neg c6, if_neg c7, if_pos c8]) h
  have hb : body (l ++ t) = body l := by
    unfold body
    rw [hsz, List.drop_append_of_le_length (by omega), List.take_append_of_le_length (by rw [List.length_drop]; omega)]
  have hsum : sumIs (l ++ t) (crc (body l)) ↔ sumIs l (crc (body l)) := by
    unfold sumIs
    rw [getD_append_left (by omega), getD_append_left (by omega), getD_append_left (by omega), getD_append_left (by omega)]
  refine ⟨?_, fun _ => hb⟩
  unfold ends
  rw [if_neg (show ¬ (l ++ t).length < 1 by rw [List.length_append]; omega), if_neg (show ¬ (l ++ t).getD 0 0 ≠ 199 by rw [g0]; exact c2), if_neg (show ¬ (l ++ t).length < 2 by rw [List.length_append]; omega), if_neg (show ¬ (l ++ t).getD 1 0 ≠ 157 by rw [g1]; exact c4), if_neg (show ¬ (l ++ t).length < 8 by rw [List.length_append]; omega), if_neg (show ¬ ¬ notIs (l ++ t) by rw [hnot]; exact c6),
    hsz, if_neg c7, if_neg (show ¬ (l ++ t).length < 12 + size3 l by rw [List.length_append]; omega), hb,
    if_neg c1, if_neg c2, if_neg c3, if_neg c4, if_neg c5, if_neg c6, if_neg c7, if_neg c8]
  by_cases c9 : ¬ sumIs l (crc (body l))
  · rw [if_pos c9, if_pos (by rw [hsum]; exact c9)]
  · rw [if_neg c9, if_neg (by rw [hsum]; exact c9)]

theorem ends_pos {l : List UInt8} (h : (ends l).2 = 0) : (ends l).1 = 12 + (body l).length ∧ 12 + (body l).length ≤ l.length ∧ (body l).length ≤ 131072 := by
  obtain ⟨h1, F⟩ := framed_of_ends (l := l) (e := (ends l).1) (by rw [← h])
  exact ⟨h1, F.long, F.small⟩
theorem ends_nil : ends [] = (0, 90) := rfl

/-- Scan: the payloads, how many bytes, why it ended. -/
def scan (l : List UInt8) : List (List UInt8) × Nat × Nat :=
  if l = [] then ([], 0, 0)
  else if h : (ends l).2 = 0 then
    have : l.length - (ends l).1 < l.length := by have := ends_pos h; omega
    (body l :: (scan (l.drop (ends l).1)).1, (ends l).1 + (scan (l.drop (ends l).1)).2.1, (scan (l.drop (ends l).1)).2.2)
  else ([], 0, (ends l).2)
termination_by l.length
decreasing_by all_goals (rw [List.length_drop]; assumption)

theorem scan_nil : scan [] = ([], 0, 0) := by rw [scan, if_pos rfl]
theorem scan_bad {l : List UInt8} (h : l ≠ []) (he : (ends l).2 ≠ 0) : scan l = ([], 0, (ends l).2) := by rw [scan, if_neg h, dif_neg he]
theorem scan_good {l : List UInt8} (he : (ends l).2 = 0) : scan l = (body l :: (scan (l.drop (ends l).1)).1, (ends l).1 + (scan (l.drop (ends l).1)).2.1, (scan (l.drop (ends l).1)).2.2) := by
  have h : l ≠ [] := by rintro rfl; rw [ends_nil] at he; cases he
  rw [scan, if_neg h, dif_pos he]

/-- The frames of payloads, one behind the other. -/
def framesB (ps : List (List UInt8)) : List UInt8 := ps.flatMap frameB
theorem framesB_nil : framesB [] = [] := rfl
theorem framesB_cons (p : List UInt8) (ps : List (List UInt8)) : framesB (p :: ps) = frameB p ++ framesB ps := rfl
theorem framesB_append (a b : List (List UInt8)) : framesB (a ++ b) = framesB a ++ framesB b := by unfold framesB; rw [List.flatMap_append]
theorem framesB_one (p : List UInt8) : framesB [p] = frameB p := by rw [framesB_cons, framesB_nil, List.append_nil]

theorem scan_frame (p t : List UInt8) (h : p.length ≤ 131072) : scan (frameB p ++ t) = (p :: (scan t).1, 12 + p.length + (scan t).2.1, (scan t).2.2) := by
  have he := ends_frame p t h
  rw [scan_good (by rw [he]), he, body_frame p t h]
  rw [List.drop_left' (frameB_length p)]

theorem scan_frames (ps : List (List UInt8)) (t : List UInt8) (h : ∀ p ∈ ps, p.length ≤ 131072) : scan (framesB ps ++ t) = (ps ++ (scan t).1, (framesB ps).length + (scan t).2.1, (scan t).2.2) := by
  induction ps with
  | nil => simp [framesB_nil]
  | cons p ps ih =>
    rw [framesB_cons, List.append_assoc, scan_frame p _ (h p (by simp)), ih (fun q hq => h q (by simp [hq]))]
    simp only [List.cons_append, List.length_append, frameB_length, Nat.add_assoc]

/-- Where frame i begins. -/
def offB (ps : List (List UInt8)) (i : Nat) : Nat := (framesB (ps.take i)).length
theorem offB_zero (ps : List (List UInt8)) : offB ps 0 = 0 := rfl
theorem offB_succ (ps : List (List UInt8)) (i : Nat) (h : i < ps.length) : offB ps (i + 1) = offB ps i + (12 + (ps.getD i []).length) := by
  unfold offB
  rw [List.take_succ_eq_append_getElem h, framesB_append, List.length_append, framesB_one, frameB_length, List.getD_eq_getElem?_getD, List.getElem?_eq_getElem h, Option.getD_some]
theorem offB_all (ps : List (List UInt8)) : offB ps ps.length = (framesB ps).length := by unfold offB; rw [List.take_length]

theorem frames_split (ps : List (List UInt8)) (i : Nat) (h : i < ps.length) : framesB ps = framesB (ps.take i) ++ (frameB (ps.getD i []) ++ framesB (ps.drop (i + 1))) := by
  have : ps = ps.take i ++ (ps.getD i [] :: ps.drop (i + 1)) := by
    rw [List.getD_eq_getElem?_getD, List.getElem?_eq_getElem h, Option.getD_some, ← List.drop_eq_getElem_cons h, List.take_append_drop]
  conv => lhs; rw [this]
  rw [framesB_append, framesB_cons]

theorem frame_head (p : List UInt8) (t : List UInt8) : (frameB p ++ t).length ≠ 0 := by rw [List.length_append, frameB_length]; omega

/-- Frames that are cut at k, where w of them are whole. -/
theorem scan_cut (ps : List (List UInt8)) (h : ∀ p ∈ ps, p.length ≤ 131072) (k w : Nat) (hw : w ≤ ps.length) (h1 : offB ps w ≤ k) (h2 : w < ps.length → k < offB ps (w + 1)) (h3 : k ≤ (framesB ps).length) :
    scan ((framesB ps).take k) = (ps.take w, offB ps w, if offB ps w < k then 90 else 0) := by
  have hm : ∀ p ∈ ps.take w, p.length ≤ 131072 := fun p hp => h p (List.mem_of_mem_take hp)
  by_cases hlt : w < ps.length
  · have hk := h2 hlt
    rw [offB_succ ps w hlt] at hk
    rw [frames_split ps w hlt]
    have hp : (ps.getD w []).length ≤ 131072 := by
      rw [List.getD_eq_getElem?_getD, List.getElem?_eq_getElem hlt, Option.getD_some]
      exact h _ (List.getElem_mem hlt)
    generalize ps.getD w [] = p at hk hp
    rw [List.take_append, List.take_of_length_le (show (framesB (ps.take w)).length ≤ k from h1)]
    rw [List.take_append_of_le_length (by rw [frameB_length]; unfold offB at hk; omega), scan_frames _ _ hm]
    by_cases hkk : offB ps w < k
    · have he := ends_cut p (k - (framesB (ps.take w)).length) hp (by unfold offB at hk; omega)
      have hne : (frameB p).take (k - (framesB (ps.take w)).length) ≠ [] := by
        intro h0
        have := congrArg List.length h0
        rw [List.length_take, frameB_length, List.length_nil] at this
        unfold offB at hkk; omega
      rw [scan_bad hne (by rw [he]; decide), he, if_pos hkk, List.append_nil]
      rfl
    · rw [show k - (framesB (ps.take w)).length = 0 by unfold offB at hkk; omega, List.take_zero, scan_nil, if_neg hkk, List.append_nil]
      rfl
  · obtain rfl : w = ps.length := by omega
    rw [offB_all] at h1 ⊢
    have : k = (framesB ps).length := by omega
    subst this
    rw [List.take_length, List.take_length, if_neg (by omega)]
    have := scan_frames ps [] h
    rw [List.append_nil, scan_nil, List.append_nil] at this
    exact this

theorem flip_append_right (a b : List UInt8) (i : Nat) (h : 8 * a.length ≤ i) : flip (a ++ b) i = a ++ flip b (i - 8 * a.length) := by
  unfold flip
  rw [show (i - 8 * a.length) / 8 = i / 8 - a.length by omega, show (i - 8 * a.length) % 8 = i % 8 by omega, List.set_append_right _ _ (by omega)]
  congr 3
  rw [List.getD_eq_getElem?_getD, List.getElem?_append_right (by omega), ← List.getD_eq_getElem?_getD]
theorem flip_append_left (a b : List UInt8) (i : Nat) (h : i < 8 * a.length) : flip (a ++ b) i = flip a i ++ b := by
  unfold flip
  rw [List.set_append_left _ _ (by omega), getD_append_left (by omega)]

/-- Frames with one bit turned, in frame s. -/
theorem scan_flip (ps : List (List UInt8)) (h : ∀ p ∈ ps, p.length ≤ 131072) (i s : Nat) (hs : s < ps.length) (h1 : offB ps s ≤ i / 8) (h2 : i / 8 < offB ps (s + 1)) :
    scan (flip (framesB ps) i) = (ps.take s, offB ps s, if i / 8 - offB ps s < 8 then 91 else 93) := by
  have hm : ∀ p ∈ ps.take s, p.length ≤ 131072 := fun p hp => h p (List.mem_of_mem_take hp)
  rw [offB_succ ps s hs] at h2
  rw [frames_split ps s hs]
  have hp : (ps.getD s []).length ≤ 131072 := by
    rw [List.getD_eq_getElem?_getD, List.getElem?_eq_getElem hs, Option.getD_some]
    exact h _ (List.getElem_mem hs)
  generalize ps.getD s [] = p at h2 hp
  have ho : (framesB (ps.take s)).length = offB ps s := rfl
  rw [flip_append_right _ _ _ (by omega), flip_append_left _ _ _ (by rw [frameB_length]; omega), scan_frames _ _ hm, ho]
  have he := ends_flip p (framesB (ps.drop (s + 1))) hp (i - 8 * offB ps s) (by omega)
  have hne : flip (frameB p) (i - 8 * offB ps s) ++ framesB (ps.drop (s + 1)) ≠ [] := by
    intro h0
    rw [h0, ends_nil] at he
    have := congrArg Prod.snd he
    revert this
    show (90 : Nat) = (if _ then 91 else 93) → False
    split <;> decide
  have hx : (ends (flip (frameB p) (i - 8 * offB ps s) ++ framesB (ps.drop (s + 1)))).2 ≠ 0 := by
    rw [he]; show (if _ then 91 else 93) ≠ 0; split <;> decide
  rw [scan_bad hne hx, he, List.append_nil]
  by_cases h64 : i - 8 * offB ps s < 64
  · rw [if_pos h64, if_pos (by omega)]; rfl
  · rw [if_neg h64, if_neg (by omega)]; rfl

/-- Feed over what was held and the new piece: the payloads, how many bytes are thrown away, what is held. -/
def cutS (l : List UInt8) : List (List UInt8) × Nat × List UInt8 :=
  if hl : l = [] then ([], 0, [])
  else if (ends l).2 = 90 then ([], 0, l)
  else if h : (ends l).2 = 0 then
    have : l.length - (ends l).1 < l.length := by have := ends_pos h; omega
    (body l :: (cutS (l.drop (ends l).1)).1, (cutS (l.drop (ends l).1)).2.1, (cutS (l.drop (ends l).1)).2.2)
  else
    have : l.length - 1 < l.length := by have := List.length_pos_iff.2 hl; omega
    ((cutS (l.drop 1)).1, 1 + (cutS (l.drop 1)).2.1, (cutS (l.drop 1)).2.2)
termination_by l.length
decreasing_by all_goals (rw [List.length_drop]; assumption)

theorem cutS_nil : cutS [] = ([], 0, []) := by rw [cutS, dif_pos rfl]
theorem cutS_short {l : List UInt8} (he : (ends l).2 = 90) : cutS l = ([], 0, l) := by
  by_cases h : l = []
  · subst h; exact cutS_nil
  · rw [cutS, dif_neg h, if_pos he]
theorem cutS_good {l : List UInt8} (he : (ends l).2 = 0) : cutS l = (body l :: (cutS (l.drop (ends l).1)).1, (cutS (l.drop (ends l).1)).2.1, (cutS (l.drop (ends l).1)).2.2) := by
  have h : l ≠ [] := by rintro rfl; rw [ends_nil] at he; cases he
  rw [cutS, dif_neg h, if_neg (by rw [he]; decide), dif_pos he]
theorem cutS_bad {l : List UInt8} (h9 : (ends l).2 ≠ 90) (he : (ends l).2 ≠ 0) : cutS l = ((cutS (l.drop 1)).1, 1 + (cutS (l.drop 1)).2.1, (cutS (l.drop 1)).2.2) := by
  have h : l ≠ [] := by rintro rfl; rw [ends_nil] at h9; exact h9 rfl
  rw [cutS, dif_neg h, if_neg h9, dif_neg he]
theorem nonempty_of_ends {l : List UInt8} (h9 : (ends l).2 ≠ 90) : 1 ≤ l.length := by
  cases l with
  | nil => exact absurd (by rw [ends_nil]) h9
  | cons => simp

/-- How a stream is cut into pieces isn't seen. -/
theorem cutS_append (n : Nat) : ∀ a b : List UInt8, a.length ≤ n → cutS (a ++ b) = ((cutS a).1 ++ (cutS ((cutS a).2.2 ++ b)).1, (cutS a).2.1 + (cutS ((cutS a).2.2 ++ b)).2.1, (cutS ((cutS a).2.2 ++ b)).2.2) := by
  induction n with
  | zero =>
    intro a b h
    obtain rfl := List.eq_nil_of_length_eq_zero (Nat.le_zero.1 h)
    rw [cutS_nil]; simp
  | succ n ih =>
    intro a b h
    by_cases h9 : (ends a).2 = 90
    · rw [cutS_short h9]; simp
    · have hp := nonempty_of_ends h9
      obtain ⟨e1, e2⟩ := ends_append a b h9
      by_cases h0 : (ends a).2 = 0
      · obtain ⟨p1, p2, _⟩ := ends_pos h0
        have hd : (a ++ b).drop (ends a).1 = a.drop (ends a).1 ++ b := List.drop_append_of_le_length (by omega)
        rw [cutS_good (l := a ++ b) (by rw [e1]; exact h0), cutS_good h0, e1, e2 h0, hd, ih _ b (by rw [List.length_drop]; omega)]
        simp
      · have hd : (a ++ b).drop 1 = a.drop 1 ++ b := List.drop_append_of_le_length (by omega)
        rw [cutS_bad (l := a ++ b) (by rw [e1]; exact h9) (by rw [e1]; exact h0), cutS_bad h9 h0, hd, ih _ b (by rw [List.length_drop]; omega)]
        simp only [Nat.add_assoc]

theorem cutS_held (n : Nat) : ∀ l : List UInt8, l.length ≤ n → cutS (cutS l).2.2 = ([], 0, (cutS l).2.2) ∧ (cutS l).2.2.length ≤ 131083 := by
  induction n with
  | zero =>
    intro l h
    obtain rfl := List.eq_nil_of_length_eq_zero (Nat.le_zero.1 h)
    simp [cutS_nil]
  | succ n ih =>
    intro l h
    by_cases h9 : (ends l).2 = 90
    · rw [cutS_short h9]
      refine ⟨cutS_short h9, ?_⟩
      by_cases hs : 8 ≤ l.length
      · unfold ends at h9
        split at h9
        · omega
        split at h9
        · simp at h9
        split at h9
        · omega
        split at h9
        · simp at h9
        split at h9
        · omega
        split at h9
        · simp at h9
        split at h9
        · simp at h9
        split at h9
        · show l.length ≤ 131083; omega
        split at h9
        · simp at h9
        · simp at h9
      · show l.length ≤ 131083; omega
    · have hp := nonempty_of_ends h9
      by_cases h0 : (ends l).2 = 0
      · obtain ⟨p1, p2, _⟩ := ends_pos h0
        rw [cutS_good h0]
        exact ih _ (by rw [List.length_drop]; omega)
      · rw [cutS_bad h9 h0]
        exact ih _ (by rw [List.length_drop]; omega)

theorem cutS_frame (p t : List UInt8) (h : p.length ≤ 131072) : cutS (frameB p ++ t) = (p :: (cutS t).1, (cutS t).2.1, (cutS t).2.2) := by
  have he := ends_frame p t h
  rw [cutS_good (by rw [he]), he, body_frame p t h]
  rw [List.drop_left' (frameB_length p)]

/-- A byte that isn't the mark's first is thrown away. -/
theorem cutS_odd (x : UInt8) (t : List UInt8) (h : x ≠ 199) : cutS (x :: t) = ((cutS t).1, 1 + (cutS t).2.1, (cutS t).2.2) := by
  have he : ends (x :: t) = (0, 91) := by
    unfold ends
    rw [if_neg (by simp), if_pos (by simpa using h)]
  rw [cutS_bad (by rw [he]; decide) (by rw [he]; decide)]
  rfl
theorem cutS_odds (o t : List UInt8) (h : ∀ x ∈ o, x ≠ 199) : cutS (o ++ t) = ((cutS t).1, o.length + (cutS t).2.1, (cutS t).2.2) := by
  induction o with
  | nil => simp
  | cons x o ih =>
    rw [List.cons_append, cutS_odd x _ (h x (by simp)), ih (fun y hy => h y (by simp [hy]))]
    simp only [List.length_cons]
    congr 2
    omega

/-- Every byte is in a frame, held or lost. -/
theorem cutS_count (n : Nat) : ∀ l : List UInt8, l.length ≤ n → (framesB (cutS l).1).length + (cutS l).2.1 + (cutS l).2.2.length = l.length := by
  induction n with
  | zero =>
    intro l h
    obtain rfl := List.eq_nil_of_length_eq_zero (Nat.le_zero.1 h)
    simp [cutS_nil, framesB_nil]
  | succ n ih =>
    intro l h
    by_cases h9 : (ends l).2 = 90
    · rw [cutS_short h9]; simp [framesB_nil]
    · have hp := nonempty_of_ends h9
      by_cases h0 : (ends l).2 = 0
      · obtain ⟨p1, p2, _⟩ := ends_pos h0
        have := ih (l.drop (ends l).1) (by rw [List.length_drop]; omega)
        rw [List.length_drop] at this
        rw [cutS_good h0, framesB_cons, List.length_append, frameB_length]
        simp only
        omega
      · have := ih (l.drop 1) (by rw [List.length_drop]; omega)
        rw [List.length_drop] at this
        rw [cutS_bad h9 h0]
        simp only
        omega

/-- What Scan tells, Feed tells first. -/
theorem scan_cutS (n : Nat) : ∀ l : List UInt8, l.length ≤ n → ∃ r, (cutS l).1 = (scan l).1 ++ r := by
  induction n with
  | zero =>
    intro l h
    obtain rfl := List.eq_nil_of_length_eq_zero (Nat.le_zero.1 h)
    exact ⟨[], by simp [cutS_nil, scan_nil]⟩
  | succ n ih =>
    intro l h
    by_cases h0 : (ends l).2 = 0
    · obtain ⟨p1, p2, _⟩ := ends_pos h0
      obtain ⟨r, hr⟩ := ih (l.drop (ends l).1) (by rw [List.length_drop]; omega)
      exact ⟨r, by rw [cutS_good h0, scan_good h0]; simp [hr]⟩
    · by_cases hl : l = []
      · subst hl; exact ⟨[], by simp [cutS_nil, scan_nil]⟩
      · exact ⟨(cutS l).1, by rw [scan_bad hl h0]; simp⟩
end Go.Proofs.YtooagpjfcnpheaaDoor
