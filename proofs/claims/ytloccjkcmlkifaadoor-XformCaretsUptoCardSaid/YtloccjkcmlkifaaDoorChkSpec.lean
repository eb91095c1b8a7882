/- What utext.Check answers, in plain words. -/
import Derived.Test.YtloccjkcmlkifaaDoorTables
import Derived.Laws.RangeAny
namespace Go.Proofs.YtloccjkcmlkifaaDoor
open Go.RowKit

def okSeq (s : ByteArray) (pos : Nat) (c : Int) : Bool :=
  if c = 65533 then (if 3 ≤ (s.extract pos s.size).size then ((s.extract pos s.size).extract 0 3).toList == (⟨#[239, 191, 189]⟩ : ByteArray).toList else false) else true
def okRune (c : Int) : Bool := (barsL.all fun b => !(decide (b.1 ≤ c) && decide (c ≤ b.2))) && decide (Go.bits .and .i32 c 65535 < 65534)
def chkFrom (s : ByteArray) : Nat → Nat → Int → Int × Int × Int
  | 0, _, n => (n, 0, 0)
  | f + 1, pos, n =>
    if pos < s.size then
      if okSeq s pos (Utf8.decode s pos).1 then
        if okRune (Utf8.decode s pos).1 then chkFrom s f (pos + (Utf8.decode s pos).2) (wrap64 (n + 1)) else (0, pos, 11)
      else (0, pos, 10)
    else (n, 0, 0)
def utext_Check.f (s : ByteArray) : Option (Int × Int × Int) := some (chkFrom s s.size 0 0)
theorem width_pos (s : ByteArray) (pos : Nat) (h : pos < s.size) : 1 ≤ (Utf8.decode s pos).2 := by
  by_cases ha : (s[pos]'h).toNat < 128
  · rw [decode_ascii s pos h ha]
    exact Nat.le_refl _
  · exact (decode_high s pos h (by omega)).2
theorem chk_end (s : ByteArray) (f pos : Nat) (n : Int) (h : ¬ pos < s.size) : chkFrom s f pos n = (n, 0, 0) := by
  cases f with
  | zero => rfl
  | succ f => simp [chkFrom, h]
end Go.Proofs.YtloccjkcmlkifaaDoor

