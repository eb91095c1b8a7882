/- flipped, by its contract: the bytes in new memory with one bit turned. -/
import Derived.Test.YtooagpjfcnpheaaDoorFrameBase
namespace Go.Proofs.YtooagpjfcnpheaaDoor
open Go.RowKit

theorem own_shape {w : World} {base : Nat} {e : TypeId} {v : Value} {n : Nat} {xs : List Value} {size : Nat} (h : w.ownsRow base e size v n xs) (hn : 0 < n) : ∃ g cap, v = .slice (some ⟨g, 0, none⟩) n cap ∧ base ≤ g ∧ g < w.heap.size ∧ n ≤ cap ∧ cap ≤ 9223372036854775807 := by
  rcases h.2 with ⟨_, h0⟩ | ⟨g, cap, cur, rfl, hg, hh, h1, h2, _⟩
  · omega
  · exact ⟨g, cap, rfl, hg, (Array.getElem?_eq_some_iff.1 hh).1, h1, by simpa [maxLen] using h2⟩

def flip (l : List UInt8) (b : Nat) : List UInt8 := l.set (b / 8) (UInt8.ofNat ((l.getD (b / 8) 0).toNat ^^^ 2 ^ (b % 8)))
theorem flip_length (l : List UInt8) (b : Nat) : (flip l b).length = l.length := by simp [flip]
theorem pow_lt8 {s : Nat} (h : s < 8) : 2 ^ s < 256 := by
  have : s = 0 ∨ s = 1 ∨ s = 2 ∨ s = 3 ∨ s = 4 ∨ s = 5 ∨ s = 6 ∨ s = 7 := by omega
  rcases this with rfl | rfl | rfl | rfl | rfl | rfl | rfl | rfl <;> decide
theorem xor_bit (x : UInt8) {s : Nat} (h : s < 8) : bits .xor .u8 (x.toNat : Int) (2 ^ s % 256) = ((UInt8.ofNat (x.toNat ^^^ 2 ^ s)).toNat : Int) := by
  have h8 := x.toNat_lt
  have hp := pow_lt8 h
  have hx : x.toNat ^^^ 2 ^ s < 256 := Nat.xor_lt_two_pow (n := 8) (by omega) (by omega)
  have e1 : ((2 : Int) ^ s % 256) = ((2 ^ s : Nat) : Int) := by
    have : ((2 ^ s : Nat) : Int) = (2 : Int) ^ s := by rw [Int.natCast_pow]; rfl
    rw [← this]
    exact Int.emod_eq_of_lt (Int.natCast_nonneg _) (Int.ofNat_lt.2 hp)
  rw [e1, u8_xor_nat _ _ (by omega) hp, UInt8.toNat_ofNat', Nat.mod_eq_of_lt (by omega)]
theorem vals_set (l : List UInt8) (i : Nat) (y : UInt8) : (vals l).set i (u8 y) = vals (l.set i y) := by simp [vals, List.map_set]

set_option maxHeartbeats 800000 in
set_option maxRecDepth 100000 in
theorem flipped_any (A : Option Addr) (c : Nat) (l : List UInt8) (b : Int) (w : World) (hl : BytesAt w A l) (hA : A = none → c = 0) (hlc : l.length ≤ c) (hn : l.length ≤ 140737488351232)
    (hb0 : 0 ≤ b) (hb1 : b < 8 * (l.length : Int)) :
    Calls Tryd.prog 15 #[.slice A l.length c, .int .i64 b] w (Made (flip l b.toNat) w) := by
  have hpos : 0 < l.length := by omega
  go_enter Tryd.func15, Tryd.ntmps15
  go_wp2_with fail
  refine (copied_any A c l w hl hA hlc hn).mono ?_
  rintro e w1 ⟨v, rfl, hown, hb⟩
  obtain ⟨g, cap, rfl, hg, hgw, h1, h2⟩ := own_shape hown hpos
  obtain ⟨i, hi⟩ : ∃ i : Nat, (i : Int) = b / 8 := ⟨(b / 8).toNat, by omega⟩
  obtain ⟨s, hs⟩ : ∃ s : Nat, (s : Int) = b % 8 := ⟨(b % 8).toNat, by omega⟩
  have hil : i < l.length := by omega
  have c0 : w1.cell? ⟨g, i, none⟩ = some (.int .u8 ((l.getD i 0).toNat : Int)) := by
    rw [hown.cellAt i (by omega)]
    simp [vals, u8, hil]
  have f0 := hown.frozenAt i
  obtain ⟨x, hx⟩ : ∃ x, x = (l.getD i 0) := ⟨_, rfl⟩
  rw [← hx] at c0
  have hx8 := x.toNat_lt
  have q1 : b / 8 = (i : Int) := hi.symm
  have q2 : b % 8 = (s : Int) := hs.symm
  have hs8 : s < 8 := by omega
  have HX := Lib.hid hx
  have HO := Lib.hid hown
  have HB := Lib.hid hb
  clear hx hown hb hi hs hl hA
  go_wp2
  go_region
  go_wp2
  go_ret
  have hfl : (vals l).set i (.int .u8 (bits .xor .u8 (x.toNat : Int) (2 ^ s % 256))) = vals (flip l b.toNat) := by
    rw [xor_bit x hs8]
    unfold flip
    rw [← vals_set, show b.toNat / 8 = i by omega, show b.toNat % 8 = s by omega, ← HX.out]; rfl
  refine ⟨_, rfl, ?_, ?_⟩
  · rw [flip_length, ← hfl]
    exact (HO.out.stored i _).1.drew
  · exact (HB.out.setCell hg _).drew

theorem flipped_n (A : Option Addr) (n c : Nat) (l : List UInt8) (b : Int) (w : World) (hl : BytesAt w A l) (hA : A = none → c = 0) (hlc : l.length ≤ c) (hn : l.length ≤ 140737488351232)
    (hb0 : 0 ≤ b) (hb1 : b < 8 * (l.length : Int)) (e : n = l.length) :
    Calls Tryd.prog 15 #[.slice A n c, .int .i64 b] w (Made (flip l b.toNat) w) := by subst e; exact flipped_any A c l b w hl hA hlc hn hb0 hb1
end Go.Proofs.YtooagpjfcnpheaaDoor
