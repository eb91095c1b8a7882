/- First, Open, wrapped, by their contracts. -/
import Derived.Test.YtooagpjfcnpheaaDoorFrameWhole
namespace Go.Proofs.YtooagpjfcnpheaaDoor
open Go.RowKit

/-- What 'First' answers where bytes are no frame. -/
def FirstBad (l : List UInt8) (w : World) (e : Ending) (w' : World) : Prop := e = .returned (.tuple #[.slice none 0 0, .int .i64 0, .int .i64 ((ends l).2 : Int)]) ∧ Below w.heap.size w w'
def FirstGood (l : List UInt8) (w : World) (e : Ending) (w' : World) : Prop := ∃ v, e = .returned (.tuple #[v, .int .i64 ((ends l).1 : Int), .int .i64 0]) ∧ w'.ownsRow w.heap.size 5 1 v (body l).length (vals (body l)) ∧ Below w.heap.size w w'

set_option maxHeartbeats 400000 in
set_option maxRecDepth 100000 in
theorem first_bad (A : Option Addr) (c : Nat) (l : List UInt8) (w : World) (hl : BytesAt w A l) (hlc : l.length ≤ c) (hn : l.length ≤ 4611686018427387904) (ht : TableAt w) (he : (ends l).2 ≠ 0) :
    Calls Tryd.prog 24 #[.slice A l.length c] w (FirstBad l w) := by
  have HW := Lib.hid (whole_any A c l w hl hlc hn ht)
  obtain ⟨a, ha⟩ : ∃ a, a = (ends l).1 := ⟨_, rfl⟩
  obtain ⟨x, hx⟩ : ∃ x, x = (ends l).2 := ⟨_, rfl⟩
  rw [← hx] at he
  have hne : ((x : Int) != 0) = true := by rw [bne_iff_ne]; omega
  have HX := Lib.hid hx
  clear hl ht he ha hx
  go_enter Tryd.func24, Tryd.ntmps24
  go_wp2_with (fail)
  refine HW.out.mono ?_
  rintro e w1 ⟨rfl, hb⟩
  have HB := Lib.hid hb
  clear hb
  rw [← HX.out]
  go_wp2
  go_ret3
  exact ⟨by rw [← HX.out]; rfl, HB.out⟩

set_option maxHeartbeats 400000 in
set_option maxRecDepth 100000 in
theorem first_good (A : Option Addr) (c : Nat) (l : List UInt8) (w : World) (hl : BytesAt w A l) (hlc : l.length ≤ c) (hn : l.length ≤ 4611686018427387904) (ht : TableAt w) (he : (ends l).2 = 0) :
    Calls Tryd.prog 24 #[.slice A l.length c] w (FirstGood l w) := by
  have HW := Lib.hid (whole_any A c l w hl hlc hn ht)
  have hf := framed_of_ends (l := l) (e := (ends l).1) (by rw [← he])
  obtain ⟨n, hn0⟩ : ∃ n, n = (body l).length := ⟨_, rfl⟩
  obtain ⟨h1, F⟩ := hf
  rw [← hn0] at h1
  have hlong : 12 + n ≤ l.length := by have := F.long; omega
  have hsmall : n ≤ 131072 := by have := F.small; omega
  obtain ⟨b, o, rfl, hb1, hq0⟩ := hl 0 (by omega)
  have HPL := Lib.hid (hl.drop 12)
  have HL := Lib.hid hl
  have HN := Lib.hid hn0
  have H1 := Lib.hid h1
  have HE := Lib.hid he
  have hs3 : size3 l = n := by rw [F.size, hn0]
  have HS := Lib.hid hs3
  have HI := Lib.hid u8info
  have hci : (12 : Int) + (n : Int) ≤ (c : Int) := by omega
  clear hl ht he hn0 h1 F hq0 hs3
  go_enter Tryd.func24, Tryd.ntmps24
  go_wp2_with (fail)
  refine HW.out.mono ?_
  rintro e w1 ⟨rfl, hb⟩
  have HB := Lib.hid hb
  clear hb
  rw [HE.out, H1.out, show ((12 + n : Nat) : Int) = 12 + (n : Int) by omega]
  have he1 : ((ends l).1 : Int) = 12 + (n : Int) := by have := H1.out; omega
  have HE1 := Lib.hid he1
  clear he1
  by_cases hc : c = 12
  · subst hc
    obtain rfl : n = 0 := by omega
    have HBB := Lib.hid (show BytesAt w1 (some ⟨b, o, none⟩) (body l) by rw [List.eq_nil_of_length_eq_zero HN.out.symm]; exact BytesAt.nil _ _)
    go_wp2_with (at_builtin; refine Hid.out ?_)
    refine Lib.hid ?_
    refine wpList_append_src _ rfl _ _ 22 rfl w.heap.size 5 _ 1 1 Tryd.underlying22 HI.out rfl (by omega) (.slice none 0 0) 0 [] rfl ⟨rfl, .inl ⟨rfl, rfl⟩⟩ _ _ _ (vals (body l)) rfl (by rw [vals_length, ← HN.out]) (fun h => by cases h) (bytes_news HBB.out) (vals_one _) (by unfold maxLen; omega) (by omega) HB.out.size ?_
    intro v w2 ho hg _
    have HO := Lib.hid ho
    have HG := Lib.hid hg
    clear ho hg
    go_wp2
    go_ret3
    refine ⟨v, by rw [HE1.out]; rfl, ?_, HB.out.grown HG.out HB.out.size (fun k hk => by cases hk)⟩
    have := HO.out
    rw [List.nil_append] at this
    rw [← HN.out]
    exact this
  · have hbb : BytesAt w1 (some ⟨b, o + 12, none⟩) (body l) := by
      unfold body
      exact (HPL.out.take _).below HB.out
    have HBB := Lib.hid hbb
    clear hbb
    go_wp2_with (at_builtin; refine Hid.out ?_)
    refine Lib.hid ?_
    refine wpList_append_src _ rfl _ _ 22 rfl w.heap.size 5 _ 1 1 Tryd.underlying22 HI.out rfl (by omega) (.slice none 0 0) 0 [] rfl ⟨rfl, .inl ⟨rfl, rfl⟩⟩ _ _ _ (vals (body l)) rfl (by rw [vals_length, ← HN.out]; omega) (fun h => by cases h) (bytes_news HBB.out) (vals_one _) (by unfold maxLen; omega) (by omega) HB.out.size ?_
    intro v w2 ho hg _
    have HO := Lib.hid ho
    have HG := Lib.hid hg
    clear ho hg
    go_wp2
    go_ret3
    refine ⟨v, by rw [HE1.out]; rfl, ?_, HB.out.grown HG.out HB.out.size (fun k hk => by cases hk)⟩
    have := HO.out
    rwa [List.nil_append, show 0 + (12 + n - 12) = n by omega, HN.out] at this

def OpenBad (x : Nat) (w : World) (e : Ending) (w' : World) : Prop := e = .returned (.tuple #[.slice none 0 0, .int .i64 (x : Int)]) ∧ Below w.heap.size w w'
def OpenGood (l : List UInt8) (w : World) (e : Ending) (w' : World) : Prop := ∃ v, e = .returned (.tuple #[v, .int .i64 0]) ∧ w'.ownsRow w.heap.size 5 1 v (body l).length (vals (body l)) ∧ Below w.heap.size w w'

set_option maxRecDepth 100000 in
theorem open_bad (A : Option Addr) (c : Nat) (l : List UInt8) (w : World) (hl : BytesAt w A l) (hlc : l.length ≤ c) (hn : l.length ≤ 4611686018427387904) (ht : TableAt w) (he : (ends l).2 ≠ 0) :
    Calls Tryd.prog 22 #[.slice A l.length c] w (OpenBad (ends l).2 w) := by
  have HW := Lib.hid (first_bad A c l w hl hlc hn ht he)
  obtain ⟨x, hx⟩ : ∃ x, x = (ends l).2 := ⟨_, rfl⟩
  rw [← hx] at he
  have hne : ((x : Int) != 0) = true := by rw [bne_iff_ne]; omega
  have HX := Lib.hid hx
  clear hl ht he hx
  go_enter Tryd.func22, Tryd.ntmps22
  go_wp2_with (fail)
  refine HW.out.mono ?_
  rintro e w1 ⟨rfl, hb⟩
  have HB := Lib.hid hb
  clear hb
  rw [← HX.out]
  go_wp2
  go_ret2
  exact ⟨by rw [← HX.out]; rfl, HB.out⟩

set_option maxRecDepth 100000 in
theorem open_tail (A : Option Addr) (c : Nat) (l : List UInt8) (w : World) (hl : BytesAt w A l) (hlc : l.length ≤ c) (hn : l.length ≤ 4611686018427387904) (ht : TableAt w) (he : (ends l).2 = 0) (hs : (ends l).1 < l.length) :
    Calls Tryd.prog 22 #[.slice A l.length c] w (OpenBad 94 w) := by
  have HW := Lib.hid (first_good A c l w hl hlc hn ht he)
  obtain ⟨x, hx⟩ : ∃ x, x = (ends l).1 := ⟨_, rfl⟩
  rw [← hx] at hs
  have hsi : (x : Int) < (l.length : Int) := by omega
  have HX := Lib.hid hx
  clear hl ht he hx
  go_enter Tryd.func22, Tryd.ntmps22
  go_wp2_with (fail)
  refine HW.out.mono ?_
  rintro e w1 ⟨v, rfl, _, hb⟩
  have HB := Lib.hid hb
  clear hb
  rw [← HX.out]
  go_wp2
  go_ret2
  exact ⟨rfl, HB.out⟩

set_option maxRecDepth 100000 in
theorem open_good (A : Option Addr) (c : Nat) (l : List UInt8) (w : World) (hl : BytesAt w A l) (hlc : l.length ≤ c) (hn : l.length ≤ 4611686018427387904) (ht : TableAt w) (he : (ends l).2 = 0) (hs : (ends l).1 = l.length) :
    Calls Tryd.prog 22 #[.slice A l.length c] w (OpenGood l w) := by
  have HW := Lib.hid (first_good A c l w hl hlc hn ht he)
  have HS := Lib.hid hs
  clear hl ht he hs
  go_enter Tryd.func22, Tryd.ntmps22
  go_wp2_with (fail)
  refine HW.out.mono ?_
  rintro e w1 ⟨v, rfl, ho, hb⟩
  have HB := Lib.hid hb
  have HO := Lib.hid ho
  clear hb ho
  rw [HS.out]
  go_wp2
  go_ret2
  exact ⟨v, rfl, HO.out, HB.out⟩

/-- Open, in one. -/
def OpenIs (l : List UInt8) (w : World) (e : Ending) (w' : World) : Prop := ∃ (v : Value) (x : Nat), e = .returned (.tuple #[v, .int .i64 (x : Int)]) ∧ Below w.heap.size w w' ∧
  (x = 0 → frameB (body l) = l ∧ (body l).length ≤ 131072 ∧ w'.ownsRow w.heap.size 5 1 v (body l).length (vals (body l)))
theorem open_any (A : Option Addr) (c : Nat) (l : List UInt8) (w : World) (hl : BytesAt w A l) (hlc : l.length ≤ c) (hn : l.length ≤ 4611686018427387904) (ht : TableAt w) :
    Calls Tryd.prog 22 #[.slice A l.length c] w (OpenIs l w) := by
  by_cases hz : (ends l).2 = 0
  · by_cases he : (ends l).1 = l.length
    · refine (open_good A c l w hl hlc hn ht hz he).mono ?_
      rintro e w' ⟨v, rfl, ho, hb⟩
      obtain ⟨h1, h2⟩ := ends_all hz he
      exact ⟨v, 0, rfl, hb, fun _ => ⟨h1, h2, ho⟩⟩
    · refine (open_tail A c l w hl hlc hn ht hz (by have := ends_le hz; omega)).mono ?_
      rintro e w' ⟨rfl, hb⟩
      exact ⟨_, 94, rfl, hb, fun h => by cases h⟩
  · refine (open_bad A c l w hl hlc hn ht hz).mono ?_
    rintro e w' ⟨rfl, hb⟩
    exact ⟨_, _, rfl, hb, fun h => absurd h hz⟩

/-- A payload that may be: its frame, true. -/
def Wrapped (p : List UInt8) (w : World) (e : Ending) (w' : World) : Prop := ∃ v, e = .returned (.tuple #[v, .bool true]) ∧ w'.ownsRow w.heap.size 5 1 v (frameB p).length (vals (frameB p)) ∧ Below w.heap.size w w'

set_option maxRecDepth 100000 in
theorem wrapped_any (A : Option Addr) (c : Nat) (p : List UInt8) (w : World) (hl : BytesAt w A p) (hA : A = none → c = 0) (hlc : p.length ≤ c) (hn : p.length ≤ 131072) (ht : TableAt w) :
    Calls Tryd.prog 21 #[.slice A p.length c] w (Wrapped p w) := by
  have HC := Lib.hid (copied_any A c p w hl hA hlc (by omega))
  have HT := Lib.hid ht
  clear hl ht
  go_enter Tryd.func21, Tryd.ntmps21
  go_wp2_with (fail)
  refine HC.out.mono ?_
  rintro e w1 ⟨v1, rfl, ho1, hb1⟩
  obtain ⟨_, B1, d1, rfl, hB1, hB1n, hB1l, _⟩ := own_bytes ho1
  have HB1 := Lib.hid hb1
  have HW := Lib.hid (wrap_any B1 d1 p w1 hB1 hB1n hB1l hn (HT.out.below hb1))
  clear ho1 hb1 hB1 hB1n
  go_wp2_with (fail)
  refine HW.out.mono ?_
  rintro e w2 ⟨v2, rfl, ho2, hb2⟩
  obtain ⟨g2, c2, rfl, _, _, _, _⟩ := own_shape ho2 (by rw [frameB_length]; omega)
  have HO2 := Lib.hid ho2
  have HB2 := Lib.hid hb2
  have HF := Lib.hid (frameB_length p)
  rw [frameB_length p]
  clear ho2 hb2
  go_wp2
  go_ret2
  refine ⟨_, rfl, ?_, HB1.out.trans (HB2.out.mono HB1.out.size)⟩
  have := World.ownsRow.mono HO2.out HB1.out.size
  rw [HF.out] at this ⊢
  exact this
end Go.Proofs.YtooagpjfcnpheaaDoor
