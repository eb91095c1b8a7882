/- Checksum, by its contract. -/
import Derived.Test.YtooagpjfcnpheaaDoorProg
import Derived.Test.YtooagpjfcnpheaaDoorBytes
import Derived.Test.YtooagpjfcnpheaaDoorCrc
import Derived.Lib.Hide
namespace Go.Proofs.YtooagpjfcnpheaaDoor
open Go.RowKit

def TableAt (w : World) : Prop := ∀ i, i < 16 → w.cell? ⟨0, i, none⟩ = some (.int .u32 ((tbl.getD i 0 : Nat) : Int))

/-- The four bytes of a sum, the highest first. -/
def sumCells (q : Nat) : Array Value := #[.int .u8 ((q : Int) / 16777216 % 256), .int .u8 ((q : Int) / 65536 % 256), .int .u8 ((q : Int) / 256 % 256), .int .u8 ((q : Int) % 256)]

theorem four_set {w : World} {B : Nat} {u0 u1 u2 u3 : Value} (v0 v1 v2 v3 : Value) (h0 : w.cell? ⟨B, 0, none⟩ = some u0) (h1 : w.cell? ⟨B, 1, none⟩ = some u1) (h2 : w.cell? ⟨B, 2, none⟩ = some u2) (h3 : w.cell? ⟨B, 3, none⟩ = some u3) :
    let w' := (((w.setCell ⟨B, 0, none⟩ v0).setCell ⟨B, 1, none⟩ v1).setCell ⟨B, 2, none⟩ v2).setCell ⟨B, 3, none⟩ v3
    w'.cell? ⟨B, 0, none⟩ = some v0 ∧ w'.cell? ⟨B, 1, none⟩ = some v1 ∧ w'.cell? ⟨B, 2, none⟩ = some v2 ∧ w'.cell? ⟨B, 3, none⟩ = some v3 := by
  have ne : ∀ i j : Nat, i ≠ j → (⟨B, i, none⟩ : Addr) ≠ ⟨B, j, none⟩ := fun i j h e => h (by cases e; rfl)
  refine ⟨?_, ?_, ?_, ?_⟩
  · rw [World.cell?_setCell_other _ _ _ _ (ne 3 0 (by decide)), World.cell?_setCell_other _ _ _ _ (ne 2 0 (by decide)), World.cell?_setCell_other _ _ _ _ (ne 1 0 (by decide)), World.cell?_setCell_same _ _ _ h0]
  · rw [World.cell?_setCell_other _ _ _ _ (ne 3 1 (by decide)), World.cell?_setCell_other _ _ _ _ (ne 2 1 (by decide)), World.cell?_setCell_same (u := u1)]
    rw [World.cell?_setCell_other _ _ _ _ (ne 0 1 (by decide))]; exact h1
  · rw [World.cell?_setCell_other _ _ _ _ (ne 3 2 (by decide)), World.cell?_setCell_same (u := u2)]
    rw [World.cell?_setCell_other _ _ _ _ (ne 1 2 (by decide)), World.cell?_setCell_other _ _ _ _ (ne 0 2 (by decide))]; exact h2
  · rw [World.cell?_setCell_same (u := u3)]
    rw [World.cell?_setCell_other _ _ _ _ (ne 2 3 (by decide)), World.cell?_setCell_other _ _ _ _ (ne 1 3 (by decide)), World.cell?_setCell_other _ _ _ _ (ne 0 3 (by decide))]; exact h3

set_option maxHeartbeats 800000 in
set_option maxRecDepth 100000 in
theorem checksum (A : Option Addr) (c : Nat) (l : List UInt8) (w : World) (hl : BytesAt w A l) (hn : l.length ≤ 140737488351232) (ht : TableAt w) :
    Calls Tryd.prog 13 #[.slice A l.length c] w fun e w' => e = .returned (.agg (sumCells (crc l))) ∧ Below w.heap.size w w' := by
  have h0 : 0 < w.heap.size := World.block_lt_of_cell? w _ (ht 0 (by omega))
  go_enter Tryd.func13, Tryd.ntmps13
  go_wp2
  go_loopw [8, 3] (fun i r wr => ∃ k : Nat, k ≤ l.length ∧ i = .int .i64 k ∧ r = .int .u32 (reg (l.take k) : Nat) ∧ (∀ j, j < 4 → wr.cell? ⟨w.heap.size, j, none⟩ = some (.int .u8 0) ∧ wr.frozen? ⟨w.heap.size, j, none⟩ = false) ∧ w.heap.size < wr.heap.size ∧ Below w.heap.size w wr)
    (fun i _ _ => l.length - (intOf i).toNat)
  case atStart =>
    refine ⟨0, Nat.zero_le _, rfl, rfl, fun j hj => ?_, by simp, (Below.refl _ _).alloc (Nat.le_refl _) _⟩
    have : j = 0 ∨ j = 1 ∨ j = 2 ∨ j = 3 := by omega
    rcases this with rfl | rfl | rfl | rfl <;> simp
  case round =>
    obtain ⟨k, hk, rfl, rfl, hj, hz, hb⟩ := hrel
    by_cases hlt : k < l.length
    · obtain ⟨b, o, rfl, hb1, q0⟩ := hl k hlt
      obtain ⟨x, hx⟩ : ∃ x, x = l.getD k 0 := ⟨_, rfl⟩
      obtain ⟨r, hr⟩ : ∃ r, r = reg (l.take k) := ⟨_, rfl⟩
      rw [← hx] at q0
      rw [← hr]
      have hr32 : r < 4294967296 := hr ▸ reg_lt _
      have hx8 := x.toNat_lt
      have e0 := (hb.cell (p := ⟨b, o + k, none⟩) hb1).trans q0
      obtain ⟨m, i, t, n, i2, t2, n2, hm, hm32, hi, hi16, ht1, ht32, hn1, hn32, hi2, hi216, ht2, ht232, hn2, hn232, hst⟩ := step_names hr32 x
      have E1 : bits .xor .u32 (r : Int) (x.toNat : Int) = (m : Int) := by rw [u32_xor_nat _ _ hr32 (by omega), hm]
      have E2 : bits .and .u32 (m : Int) 15 = (i : Int) := by
        have := u32_and_nat m 15 hm32 (by omega)
        rw [nat_mask4] at this
        rw [hi]; exact this
      have E3 : bits .xor .u32 ((m : Int) / 16) (t : Int) = (n : Int) := by
        have := u32_xor_nat (m / 16) t (by omega) ht32
        rw [hn1, ← this]; rfl
      have E4 : bits .and .u32 (n : Int) 15 = (i2 : Int) := by
        have := u32_and_nat n 15 hn32 (by omega)
        rw [nat_mask4] at this
        rw [hi2]; exact this
      have E5 : bits .xor .u32 ((n : Int) / 16) (t2 : Int) = (n2 : Int) := by
        have := u32_xor_nat (n / 16) t2 (by omega) ht232
        rw [hn2, ← this]; rfl
      have c1 : wr.cell? ⟨0, i, none⟩ = some (.int .u32 (t : Int)) := by rw [ht1]; exact (hb.cell (p := ⟨0, i, none⟩) h0).trans (ht i hi16)
      have c2 : wr.cell? ⟨0, i2, none⟩ = some (.int .u32 (t2 : Int)) := by rw [ht2]; exact (hb.cell (p := ⟨0, i2, none⟩) h0).trans (ht i2 hi216)
      have HS := Lib.hid hst
      clear hm hi ht1 hn1 hi2 ht2 hn2 hst q0 hl ht
      have HX := Lib.hid hx
      have HR := Lib.hid hr
      have HJ := Lib.hid hj
      clear hx hr hj
      go_wp2
      go_roundw
      case rel =>
        refine ⟨k + 1, by omega, by go_num, ?_, HJ.out, hz, hb⟩
        rw [reg_take_succ l k hlt, ← HX.out, ← HR.out, ← HS.out]
      case measure => simp [intOf]; omega
    · obtain rfl : k = l.length := by omega
      rw [List.take_length]
      obtain ⟨r, hr⟩ : ∃ r, r = reg l := ⟨_, rfl⟩
      rw [← hr]
      have hr32 : r < 4294967296 := hr ▸ reg_lt _
      obtain ⟨q, hq⟩ : ∃ q, q = crc l := ⟨_, rfl⟩
      have EQ : bits .xor .u32 IntKind.u32.max (r : Int) = (q : Int) := by
        have := u32_xor_nat 4294967295 r (by omega) hr32
        rw [hq, crc, ← hr, ← not_xor hr32, ← this]; rfl
      obtain ⟨j0, f0⟩ := hj 0 (by omega)
      obtain ⟨j1, f1⟩ := hj 1 (by omega)
      obtain ⟨j2, f2⟩ := hj 2 (by omega)
      obtain ⟨j3, f3⟩ := hj 3 (by omega)
      have HQ := Lib.hid hq
      clear hr hq hj hl ht
      go_wp2
      have F := four_set (.int .u8 ((q : Int) / 16777216 % 256)) (.int .u8 ((q : Int) / 65536 % 256)) (.int .u8 ((q : Int) / 256 % 256)) (.int .u8 ((q : Int) % 256)) j0 j1 j2 j3
      obtain ⟨F0, F1, F2, F3⟩ := F
      refine bodyPost_ret (v := .agg (sumCells q)) ?_ rfl ⟨by rw [HQ.out], (((hb.setCell (Nat.le_refl _) _).setCell (Nat.le_refl _) _).setCell (Nat.le_refl _) _).setCell (Nat.le_refl _) _⟩
      simp [results, Tryd.results13, go_sem, F0, F1, F2, F3, sumCells]
end Go.Proofs.YtooagpjfcnpheaaDoor
