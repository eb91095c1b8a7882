/- rest, copied, eight, by their contracts. -/
import Derived.Test.YtooagpjfcnpheaaDoorChecksum
import Derived.Test.YtooagpjfcnpheaaDoorApp
import Derived.Test.YtooagpjfcnpheaaDoorLater
namespace Go.Proofs.YtooagpjfcnpheaaDoor
open Go.RowKit

theorem rest_arith (n m : Int) : (n.tmod m + m) % m = n % m := by
  rw [Int.add_emod_right]
  rcases Int.lt_or_le n 0 with h0 | h0
  · rw [Int.tmod_def]
    rw [show n - m * n.tdiv m = n + m * (- n.tdiv m) by rw [Int.mul_neg]; omega, Int.add_mul_emod_self_left]
  · rw [Int.tmod_eq_emod_of_nonneg h0, Int.emod_emod_of_dvd _ (Int.dvd_refl m)]

set_option maxRecDepth 100000 in
theorem rest_any (n m : Int) (w : World) (h : 0 < m) (hm : m ≤ 4000000000000000000) :
    Calls Tryd.prog 16 #[.int .i64 n, .int .i64 m] w fun e w' => e = .returned (.int .i64 (n % m)) ∧ w = w' := by
  have h1 := Int.tmod_lt_of_pos n h
  have h2 : -m < n.tmod m := Int.lt_tmod_of_pos n h
  have h3 : ¬ m = 0 := by omega
  have HR := Lib.hid (rest_arith n m)
  go_enter Tryd.func16, Tryd.ntmps16
  go_wp2
  go_ret
  exact ⟨by show Ending.returned (.int .i64 ((n.tmod m + m) % m)) = _; rw [HR.out], rfl⟩

theorem u8info : (Tryd.prog.info? 5).map (fun i => (i.zero, i.size, i.bytes)) = some (some (.int .u8 0), 1, 1) := by kernel_rfl

/-- A new row of bytes is handed back; old memory is as it was. -/
def Made (l : List UInt8) (w : World) (e : Ending) (w' : World) : Prop := ∃ v, e = .returned v ∧ w'.ownsRow w.heap.size 5 1 v l.length (vals l) ∧ Below w.heap.size w w'

set_option maxRecDepth 100000 in
theorem copied_any (A : Option Addr) (c : Nat) (l : List UInt8) (w : World) (hl : BytesAt w A l) (hA : A = none → c = 0) (hlc : l.length ≤ c) (hn : l.length ≤ 140737488351232) :
    Calls Tryd.prog 14 #[.slice A l.length c] w (Made l w) := by
  have HL := Lib.hid hl
  have HA := Lib.hid hA
  have HI := Lib.hid u8info
  clear hl hA
  go_enter Tryd.func14, Tryd.ntmps14
  go_wp2_with (at_builtin; refine wpList_append_src _ rfl _ _ 22 rfl w.heap.size 5 _ 1 1 Tryd.underlying22 HI.out rfl (by omega) (.slice none 0 0) 0 [] rfl ⟨rfl, .inl ⟨rfl, rfl⟩⟩ A l.length c (vals l) rfl (by rw [vals_length]; omega) (fun h => by have := HA.out h; omega) (bytes_news HL.out) (vals_one l) (by unfold maxLen; omega) (by omega) (Nat.le_refl _) ?_; intro v' w1 hown hgrow hat)
  have HO := Lib.hid hown
  have HG := Lib.hid hgrow
  clear hown hgrow
  go_wp2
  go_ret
  refine ⟨v', rfl, ?_, ?_⟩
  · have := HO.out
    rwa [List.nil_append, Nat.zero_add] at this
  · exact (Below.refl _ _).grown HG.out (Nat.le_refl _) (fun k hk => by simp [Value.ownBlock] at hk)

theorem copied_n (A : Option Addr) (n c : Nat) (l : List UInt8) (w : World) (hl : BytesAt w A l) (hA : A = none → c = 0) (hlc : l.length ≤ c) (hn : l.length ≤ 140737488351232) (e : n = l.length) :
    Calls Tryd.prog 14 #[.slice A n c] w (Made l w) := by subst e; exact copied_any A c l w hl hA hlc hn
theorem checksum_n (A : Option Addr) (n c : Nat) (l : List UInt8) (w : World) (hl : BytesAt w A l) (hn : l.length ≤ 140737488351232) (ht : TableAt w) (e : n = l.length) :
    Calls Tryd.prog 13 #[.slice A n c] w fun e w' => e = .returned (.agg (sumCells (crc l))) ∧ Below w.heap.size w w' := by subst e; exact checksum A c l w hl hn ht
theorem TableAt.below {w w' : World} (h : TableAt w) (hb : Below w.heap.size w w') : TableAt w' := fun i hi =>
  (hb.cell (p := ⟨0, i, none⟩) (World.block_lt_of_cell? w _ (h i hi))).trans (h i hi)

theorem own_base' {w : World} {base : Nat} {e : TypeId} {size n : Nat} {v : Value} {xs : List Value} (h : w.ownsRow base e size v n xs) (k : Nat) (hk : v.ownBlock = some k) : base ≤ k := by
  rcases h.2 with ⟨rfl, _⟩ | ⟨g, cap, cur, rfl, hg, _⟩
  · simp [Value.ownBlock] at hk
  · simp [Value.ownBlock] at hk; omega
theorem join32 (i x y : Nat) (hx : x % 2 ^ i = 0) (hy : y < 2 ^ i) (h : x + y < 4294967296) : bits .or .u32 (x : Int) (y : Int) = ((x + y : Nat) : Int) := by
  rw [u32_or_nat x y (by omega) (by omega), nat_join i x y hx hy]
theorem eight_arith (q : Nat) (hq : q < 4294967296) :
    bits .or .u32 (bits .or .u32 (bits .or .u32 ((q : Int) / 16777216 % 256 * 16777216) ((q : Int) / 65536 % 256 * 65536)) ((q : Int) / 256 % 256 * 256)) ((q : Int) % 256) = (q : Int) := by
  have a1 : ((q : Int) / 16777216 % 256 * 16777216) = ((q / 16777216 % 256 * 16777216 : Nat) : Int) := by omega
  have a2 : ((q : Int) / 65536 % 256 * 65536) = ((q / 65536 % 256 * 65536 : Nat) : Int) := by omega
  have a3 : ((q : Int) / 256 % 256 * 256) = ((q / 256 % 256 * 256 : Nat) : Int) := by omega
  have a4 : ((q : Int) % 256) = ((q % 256 : Nat) : Int) := by omega
  rw [a1, a2, a3, a4, join32 24 _ _ (by omega) (by omega) (by omega), join32 16 _ _ (by omega) (by omega) (by omega), join32 8 _ _ (by omega) (by omega) (by omega)]
  omega

set_option maxRecDepth 100000 in
theorem eight_any (q : Nat) (hq : q < 4294967296) (w : World) :
    Calls Tryd.prog 12 #[.agg (sumCells q)] w fun e w' => e = .returned (.int .u32 (q : Int)) ∧ Below w.heap.size w w' := by
  unfold sumCells
  go_enter Tryd.func12, Tryd.ntmps12
  go_wp2
  go_ret
  refine ⟨?_, (Below.refl _ _).alloc (Nat.le_refl _) _⟩
  exact congrArg (fun n => Ending.returned (.int .u32 n)) (eight_arith q hq)
end Go.Proofs.YtooagpjfcnpheaaDoor
