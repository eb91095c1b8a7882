/- whole, First, Open, by their contracts. -/
import Derived.Test.YtooagpjfcnpheaaDoorFrameWrap
import Derived.Deep.QuietTactic
import Derived.BigQuiet
import Derived.Test.YtooagpjfcnpheaaDoorArr
namespace Go.Proofs.YtooagpjfcnpheaaDoor
open Go.RowKit

theorem run_equalIn_three {P : Program} (w : World) (d : Nat) (t e : TypeId) (k : IntKind) (a b c a' b' c' : Int) (ht : P.underlying t = some (.array 3 e)) (he : P.underlying e = some (.int k)) (hi : (P.info? e).map (·.size) = some 1) :
    (Op.equalIn (d + 2) t (.agg #[.int k a, .int k b, .int k c]) (.agg #[.int k a', .int k b', .int k c'])).run P w = .ok (a == a' && b == b' && c == c') w := by
  obtain ⟨i, hi, hs⟩ := Option.map_eq_some_iff.1 hi
  have hr : List.range' 0 3 1 = [0, 1, 2] := rfl
  have p0 : ∀ (w : World) x y z, (part e #[x, y, z] (0 * i.size)).run P w = .ok x w := fun w x y z => run_part_int w e k he _ _ _ (by simp)
  have p1 : ∀ (w : World) x y z, (part e #[x, y, z] i.size).run P w = .ok y w := fun w x y z => run_part_int w e k he _ _ _ (by simp [hs])
  have p2 : ∀ (w : World) x y z, (part e #[x, y, z] (2 * i.size)).run P w = .ok z w := fun w x y z => run_part_int w e k he _ _ _ (by simp [hs])
  unfold Op.equalIn
  simp only [Sem.run_bind, run_underlying ht, Result.andThen_ok, run_sizeOf w e i hi, Std.Legacy.Range.forIn_eq_forIn_range', Std.Legacy.Range.size, Nat.sub_zero, Nat.add_sub_cancel, Nat.div_one, hr, List.forIn_cons, List.forIn_nil, p0, Nat.one_mul, run_equalIn_int _ _ _ _ _ _ _ he]
  cases h1 : (a == a') <;> cases h2 : (b == b') <;> cases h3 : (c == c') <;> simp [p1, p2, run_equalIn_int _ _ _ _ _ _ _ he, h2, h3]
theorem run_equalIn_four {P : Program} (w : World) (d : Nat) (t e : TypeId) (k : IntKind) (a b c f a' b' c' f' : Int) (ht : P.underlying t = some (.array 4 e)) (he : P.underlying e = some (.int k)) (hi : (P.info? e).map (·.size) = some 1) :
    (Op.equalIn (d + 2) t (.agg #[.int k a, .int k b, .int k c, .int k f]) (.agg #[.int k a', .int k b', .int k c', .int k f'])).run P w = .ok (a == a' && b == b' && c == c' && f == f') w := by
  obtain ⟨i, hi, hs⟩ := Option.map_eq_some_iff.1 hi
  have hr : List.range' 0 4 1 = [0, 1, 2, 3] := rfl
  have p0 : ∀ (w : World) x y z v, (part e #[x, y, z, v] (0 * i.size)).run P w = .ok x w := fun w x y z v => run_part_int w e k he _ _ _ (by simp)
  have p1 : ∀ (w : World) x y z v, (part e #[x, y, z, v] i.size).run P w = .ok y w := fun w x y z v => run_part_int w e k he _ _ _ (by simp [hs])
  have p2 : ∀ (w : World) x y z v, (part e #[x, y, z, v] (2 * i.size)).run P w = .ok z w := fun w x y z v => run_part_int w e k he _ _ _ (by simp [hs])
  have p3 : ∀ (w : World) x y z v, (part e #[x, y, z, v] (3 * i.size)).run P w = .ok v w := fun w x y z v => run_part_int w e k he _ _ _ (by simp [hs])
  unfold Op.equalIn
  simp only [Sem.run_bind, run_underlying ht, Result.andThen_ok, run_sizeOf w e i hi, Std.Legacy.Range.forIn_eq_forIn_range', Std.Legacy.Range.size, Nat.sub_zero, Nat.add_sub_cancel, Nat.div_one, hr, List.forIn_cons, List.forIn_nil, p0, Nat.one_mul, run_equalIn_int _ _ _ _ _ _ _ he]
  cases h1 : (a == a') <;> cases h2 : (b == b') <;> cases h3 : (c == c') <;> cases h4 : (f == f') <;> simp [p1, p2, p3, run_equalIn_int _ _ _ _ _ _ _ he, h2, h3, h4]

theorem Tryd.eqB3 (w : World) (d : Nat) (a b c a' b' c' : Int) : (Op.equalIn (d + 2) 81 (.agg #[.int .u8 a, .int .u8 b, .int .u8 c]) (.agg #[.int .u8 a', .int .u8 b', .int .u8 c'])).run Tryd.prog w = .ok (a == a' && b == b' && c == c') w :=
  run_equalIn_three w d 81 5 .u8 a b c a' b' c' Tryd.underlying81 Tryd.underlying5 (by kernel_rfl)
theorem Tryd.eqSum (w : World) (d : Nat) (a b c f a' b' c' f' : Int) : (Op.equalIn (d + 2) 26 (.agg #[.int .u8 a, .int .u8 b, .int .u8 c, .int .u8 f]) (.agg #[.int .u8 a', .int .u8 b', .int .u8 c', .int .u8 f'])).run Tryd.prog w = .ok (a == a' && b == b' && c == c' && f == f') w :=
  run_equalIn_four w d 26 5 .u8 a b c f a' b' c' f' Tryd.underlying26 Tryd.underlying5 (by kernel_rfl)
theorem Tryd.mark0 (w : World) : (Instr.index 88 (.agg #[.int .u8 199, .int .u8 157]) (.int .i64 0)).run Tryd.prog w = .ok (.int .u8 199) w := by kernel_rfl
theorem Tryd.mark1 (w : World) : (Instr.index 88 (.agg #[.int .u8 199, .int .u8 157]) (.int .i64 1)).run Tryd.prog w = .ok (.int .u8 157) w := by kernel_rfl
theorem run_arrayAt {P : Program} (w : World) {t e : TypeId} {n : Nat} (A : Option Addr) (len c : Nat) (ht : P.underlying t = some (.array n e)) (h : n ≤ len) : (Instr.arrayAt t (.slice A len c)).run P w = .ok (.pointer A) w := by
  simp [Instr.arrayAt, run_underlying ht, Nat.not_lt.2 h]
theorem Tryd.arr3 (w : World) (A : Option Addr) (c : Nat) : (Instr.arrayAt 81 (.slice A 3 c)).run Tryd.prog w = .ok (.pointer A) w := run_arrayAt w A 3 c Tryd.underlying81 (Nat.le_refl _)
theorem Tryd.arr4 (w : World) (A : Option Addr) (c : Nat) : (Instr.arrayAt 26 (.slice A 4 c)).run Tryd.prog w = .ok (.pointer A) w := run_arrayAt w A 4 c Tryd.underlying26 (Nat.le_refl _)
attribute [local go_sem] Tryd.eqB3 Tryd.eqSum Tryd.mark0 Tryd.mark1 Tryd.arr3 Tryd.arr4

theorem BytesAt.one {w : World} {b o : Nat} {l : List UInt8} (h : BytesAt w (some ⟨b, o, none⟩) l) (k : Nat) (hk : k < l.length) : w.cell? ⟨b, o + k, none⟩ = some (.int .u8 ((l.getD k 0).toNat : Int)) := by
  obtain ⟨b', o', hA, _, hc⟩ := h k hk
  cases hA
  exact hc

theorem i64_or_nat (a b : Nat) (ha : a < 9223372036854775808) (hb : b < 9223372036854775808) : bits .or .i64 (a : Int) (b : Int) = ((a ||| b : Nat) : Int) := by
  have hx : a ||| b < 2 ^ 63 := Nat.or_lt_two_pow (by omega) (by omega)
  show IntKind.i64.wrap ((BitVec.ofInt 64 (a : Int) ||| BitVec.ofInt 64 (b : Int)).toNat : Int) = _
  rw [BitVec.toNat_or, ofInt_u64 a (by omega), ofInt_u64 b (by omega), IntKind.wrap_i64]
  omega
theorem size3_bits (a b c : Nat) (ha : a < 256) (hb : b < 256) (hc : c < 256) : bits .or .i64 ((a : Int) * 65536) ((b : Int) * 256) = ((a * 65536 + b * 256 : Nat) : Int) ∧ bits .or .i64 ((a * 65536 + b * 256 : Nat) : Int) (c : Int) = ((a * 65536 + b * 256 + c : Nat) : Int) := by
  constructor
  · rw [show (a : Int) * 65536 = ((a * 65536 : Nat) : Int) by omega, show (b : Int) * 256 = ((b * 256 : Nat) : Int) by omega, i64_or_nat _ _ (by omega) (by omega), nat_join 16 _ _ (by omega) (by omega)]
  · rw [i64_or_nat _ _ (by omega) (by omega), nat_join 8 _ _ (by omega) (by omega)]

/-- What 'whole' answers. -/
def EndsIs (l : List UInt8) (w : World) (e : Ending) (w' : World) : Prop := e = .returned (.tuple #[.int .i64 ((ends l).1 : Int), .int .i64 ((ends l).2 : Int)]) ∧ Below w.heap.size w w'
theorem EndsIs.of {l : List UInt8} {w w' : World} {a b : Nat} {x y : Int} (h : ends l = (a, b)) (hx : x = (a : Int)) (hy : y = (b : Int)) (hb : Below w.heap.size w w') : EndsIs l w (.returned (.tuple #[.int .i64 x, .int .i64 y])) w' := by
  subst hx hy
  exact ⟨by rw [h], hb⟩

set_option maxHeartbeats 1000000 in
set_option maxRecDepth 100000 in
theorem whole_any (A : Option Addr) (c : Nat) (l : List UInt8) (w : World) (hl : BytesAt w A l) (hlc : l.length ≤ c) (hn : l.length ≤ 4611686018427387904) (ht : TableAt w) :
    Calls Tryd.prog 34 #[.slice A l.length c] w (EndsIs l w) := by
  go_enter Tryd.func34, Tryd.ntmps34
  have HL := Lib.hid hl
  have HT := Lib.hid ht
  clear hl ht
  go_wp2
  go_loopw [8] (fun i wr => wr = w ∧ (i = .int .i64 0 ∨ (i = .int .i64 1 ∧ 1 ≤ l.length ∧ l.getD 0 0 = 199) ∨ (i = .int .i64 2 ∧ 2 ≤ l.length ∧ l.getD 0 0 = 199 ∧ l.getD 1 0 = 157))) (fun i _ => 2 - (intOf i).toNat)
  case atStart => exact ⟨rfl, .inl rfl⟩
  case round =>
    obtain ⟨rfl, hk⟩ := hrel
    rcases hk with rfl | ⟨rfl, h1, h2⟩ | ⟨rfl, h1, h2, h3⟩
    · by_cases hlt : 0 < l.length
      · have hnn : ¬ l = [] := fun h => by rw [h] at hlt; simp at hlt
        obtain ⟨b, o, rfl, hb1, q0⟩ := HL.out 0 hlt
        rw [Nat.add_zero] at q0
        obtain ⟨x, hx⟩ : ∃ x, x = l.getD 0 0 := ⟨_, rfl⟩
        rw [← hx] at q0
        by_cases h : x = 199
        · have hne : ((x.toNat : Int) != 199) = false := by rw [h]; rfl
          have HX := Lib.hid hx
          have HXX := Lib.hid h
          clear hx h
          go_wp2
          go_roundw
          case rel => exact ⟨trivial, .inr (.inl ⟨rfl, hlt, by rw [← HX.out, HXX.out]⟩)⟩
          case measure => simp [intOf]
        · have hne : ((x.toNat : Int) != 199) = true := by
            rw [bne_iff_ne]; intro e; exact h (UInt8.toNat.inj (by show x.toNat = 199; omega))
          have HE := Lib.hid (show ends l = (0, 91) by unfold ends; rw [if_neg (by omega), if_pos (by rw [← hx]; exact h)])
          clear hx h
          go_wp2
          go_ret2
          exact .of HE.out rfl rfl (Below.refl _ _)
      · obtain rfl : l = [] := List.eq_nil_of_length_eq_zero (by omega)
        have HE := Lib.hid (show ends [] = (0, 90) from rfl)
        clear hlt
        go_wp2
        go_ret2
        exact .of HE.out rfl rfl (Below.refl _ _)
    · have H2 := Lib.hid h2
      clear h2
      by_cases hlt : 1 < l.length
      · obtain ⟨b, o, rfl, hb1, q0⟩ := HL.out 1 hlt
        obtain ⟨x, hx⟩ : ∃ x, x = l.getD 1 0 := ⟨_, rfl⟩
        rw [← hx] at q0
        by_cases h : x = 157
        · have hne : ((x.toNat : Int) != 157) = false := by rw [h]; rfl
          have HX := Lib.hid hx
          have HXX := Lib.hid h
          clear hx h
          go_wp2
          go_roundw
          case rel => exact ⟨trivial, .inr (.inr ⟨rfl, hlt, H2.out, by rw [← HX.out, HXX.out]⟩)⟩
          case measure => simp [intOf]
        · have hne : ((x.toNat : Int) != 157) = true := by
            rw [bne_iff_ne]; intro e; exact h (UInt8.toNat.inj (by show x.toNat = 157; omega))
          have HE := Lib.hid (show ends l = (0, 91) by unfold ends; rw [if_neg (by omega), if_neg (fun c => c H2.out), if_neg (by omega), if_pos (by rw [← hx]; exact h)])
          clear hx h
          go_wp2
          go_ret2
          exact .of HE.out rfl rfl (Below.refl _ _)
      · have hle : (l.length : Int) ≤ 1 := by omega
        have HE := Lib.hid (show ends l = (0, 90) by unfold ends; rw [if_neg (by omega), if_neg (fun c => c H2.out), if_pos (by omega)])
        clear hlt
        go_wp2
        go_ret2
        exact .of HE.out rfl rfl (Below.refl _ _)
    · have H2 := Lib.hid h2
      have H3 := Lib.hid h3
      clear h2 h3
      have E0 : ∀ v, (if l.length < 8 then (0, 90) else if ¬ notIs l then (0, 91) else if 131072 < size3 l then (0, 92) else if l.length < 12 + size3 l then (0, 90) else if ¬ sumIs l (crc (body l)) then (0, 93) else (12 + size3 l, 0)) = v → ends l = v := by
        intro v hv
        unfold ends
        rw [if_neg (by omega), if_neg (fun c => c H2.out), if_neg (by omega), if_neg (fun c => c H3.out), hv]
      have HE0 := Lib.hid E0
      clear E0
      by_cases h8 : l.length < 8
      · have hle : (l.length : Int) < 8 := by omega
        have HE := Lib.hid (HE0.out (0, 90) (by rw [if_pos h8]))
        clear h8
        go_wp2
        go_ret2
        exact .of HE.out rfl rfl (Below.refl _ _)
      · obtain ⟨b, o, rfl, hb1, hq0⟩ := HL.out 2 (by omega)
        clear hq0
        have q2 := BytesAt.one HL.out 2 (by omega)
        have q3 := BytesAt.one HL.out 3 (by omega)
        have q4 := BytesAt.one HL.out 4 (by omega)
        have q5 := BytesAt.one HL.out 5 (by omega)
        have q6 := BytesAt.one HL.out 6 (by omega)
        have q7 := BytesAt.one HL.out 7 (by omega)
        have l2 : (l.getD 2 0).toNat < 256 := (l.getD 2 0).toNat_lt
        have l3 : (l.getD 3 0).toNat < 256 := (l.getD 3 0).toNat_lt
        have l4 : (l.getD 4 0).toNat < 256 := (l.getD 4 0).toNat_lt
        have hno := notIs_iff l
        have un : ∀ x : Nat, bits .xor .u8 (if IntKind.u8.signed = true then -1 else IntKind.u8.max) (x : Int) = bits .xor .u8 IntKind.u8.max (x : Int) := fun x => by rw [if_neg (by decide)]
        have hsz := size3_eq l
        obtain ⟨x2, hx2⟩ : ∃ x, x = (l.getD 2 0).toNat := ⟨_, rfl⟩
        obtain ⟨x3, hx3⟩ : ∃ x, x = (l.getD 3 0).toNat := ⟨_, rfl⟩
        obtain ⟨x4, hx4⟩ : ∃ x, x = (l.getD 4 0).toNat := ⟨_, rfl⟩
        obtain ⟨x5, hx5⟩ : ∃ x, x = (l.getD 5 0).toNat := ⟨_, rfl⟩
        obtain ⟨x6, hx6⟩ : ∃ x, x = (l.getD 6 0).toNat := ⟨_, rfl⟩
        obtain ⟨x7, hx7⟩ : ∃ x, x = (l.getD 7 0).toNat := ⟨_, rfl⟩
        simp only [← hx2, ← hx3, ← hx4, ← hx5, ← hx6, ← hx7] at q2 q3 q4 q5 q6 q7 l2 l3 l4 hno hsz
        clear hx2 hx3 hx4 hx5 hx6 hx7
        obtain ⟨y2, hy2⟩ : ∃ y, y = 255 - x2 := ⟨_, rfl⟩
        obtain ⟨y3, hy3⟩ : ∃ y, y = 255 - x3 := ⟨_, rfl⟩
        obtain ⟨y4, hy4⟩ : ∃ y, y = 255 - x4 := ⟨_, rfl⟩
        have N2 := (un x2).trans (u8_not x2 l2)
        have N3 := (un x3).trans (u8_not x3 l3)
        have N4 := (un x4).trans (u8_not x4 l4)
        rw [← hy2] at N2 hno
        rw [← hy3] at N3 hno
        rw [← hy4] at N4 hno
        have hle : (8 : Int) ≤ (l.length : Int) := by omega
        have hce : (8 : Int) ≤ (c : Int) := by omega
        have hcn : 8 ≤ c := by omega
        have hln : 8 ≤ l.length := by omega
        have HNO := Lib.hid hno
        have HSZ := Lib.hid hsz
        clear hno hsz hy2 hy3 hy4 un
        by_cases hn : notIs l
        · obtain ⟨e1, e2, e3⟩ := HNO.out.1 hn
          have HN := Lib.hid hn
          subst e1 e2 e3
          clear hn
          obtain ⟨J1, J2⟩ := size3_bits x2 x3 x4 l2 l3 l4
          obtain ⟨m, hm⟩ : ∃ m, m = x2 * 65536 + x3 * 256 := ⟨_, rfl⟩
          rw [← hm] at J1 J2
          obtain ⟨n, hn⟩ : ∃ n, n = m + x4 := ⟨_, rfl⟩
          rw [← hn] at J2
          have hs : size3 l = n := by rw [HSZ.out, hn, hm]
          have hn24 : n < 16777216 := by omega
          rw [hs] at HE0
          have HS := Lib.hid hs
          clear hm hn hs
          by_cases hbig : 131072 < n
          · have hbi : (131072 : Int) < (n : Int) := by omega
            have HE := Lib.hid (HE0.out (0, 92) (by rw [if_neg h8, if_neg (fun c => c HN.out), if_pos hbig]))
            clear hbig h8
            go_wp2
            go_quiet (fail)
            go_wp2
            go_quiet (fail)
            go_wp2
            go_ret2
            exact .of HE.out rfl rfl (Below.drewN' (Below.refl _ _) _)
          · have hbi : (n : Int) ≤ 131072 := by omega
            by_cases hsh : l.length < 12 + n
            · have hsi : (l.length : Int) < 12 + (n : Int) := by omega
              have HE := Lib.hid (HE0.out (0, 90) (by rw [if_neg h8, if_neg (fun c => c HN.out), if_neg hbig, if_pos hsh]))
              clear hbig hsh h8
              go_wp2
              go_quiet (fail)
              go_wp2
              go_quiet (fail)
              go_wp2
              go_ret2
              exact .of HE.out rfl rfl (Below.drewN' (Below.refl _ _) _)
            · have hsi : 12 + (n : Int) ≤ (l.length : Int) := by omega
              have HE1 := Lib.hid (fun v (hv : (if ¬ sumIs l (crc (body l)) then (0, 93) else (12 + n, 0)) = v) => HE0.out v (by rw [if_neg h8, if_neg (fun c => c HN.out), if_neg hbig, if_neg hsh, hv]))
              clear hbig hsh h8
              go_wp2
              go_quiet (fail)
              generalize nq = n1
              go_wp2
              go_quiet (fail)
              generalize nq = n2
              go_wp2_with (fail)
              generalize n1 + n2 = n3
              obtain ⟨W, hW⟩ : ∃ W, W = wr.drewN n3 := ⟨_, rfl⟩
              rw [← hW]
              have hwb : Below wr.heap.size wr W := by rw [hW]; exact Below.drewN' (Below.refl _ _) _
              have hbW : b < W.heap.size := by have := hwb.size; omega
              have hWs : W.heap.size = wr.heap.size := by rw [hW]; rfl
              obtain ⟨z8, hz8⟩ : ∃ x, x = (l.getD 8 0).toNat := ⟨_, rfl⟩
              obtain ⟨z9, hz9⟩ : ∃ x, x = (l.getD 9 0).toNat := ⟨_, rfl⟩
              obtain ⟨z10, hz10⟩ : ∃ x, x = (l.getD 10 0).toNat := ⟨_, rfl⟩
              obtain ⟨z11, hz11⟩ : ∃ x, x = (l.getD 11 0).toNat := ⟨_, rfl⟩
              have q8 := (hwb.cell (p := ⟨b, o + 8, none⟩) hb1).trans (BytesAt.one HL.out 8 (by omega))
              have q9 := (hwb.cell (p := ⟨b, o + 9, none⟩) hb1).trans (BytesAt.one HL.out 9 (by omega))
              have q10 := (hwb.cell (p := ⟨b, o + 10, none⟩) hb1).trans (BytesAt.one HL.out 10 (by omega))
              have q11 := (hwb.cell (p := ⟨b, o + 11, none⟩) hb1).trans (BytesAt.one HL.out 11 (by omega))
              have hsi' := sumIs_iff l (crc (body l))
              obtain ⟨r0, hr0⟩ : ∃ x, x = crc (body l) / 16777216 % 256 := ⟨_, rfl⟩
              obtain ⟨r1, hr1⟩ : ∃ x, x = crc (body l) / 65536 % 256 := ⟨_, rfl⟩
              obtain ⟨r2, hr2⟩ : ∃ x, x = crc (body l) / 256 % 256 := ⟨_, rfl⟩
              obtain ⟨r3, hr3⟩ : ∃ x, x = crc (body l) % 256 := ⟨_, rfl⟩
              rw [← hz8] at q8 hsi'
              rw [← hz9] at q9 hsi'
              rw [← hz10] at q10 hsi'
              rw [← hz11] at q11 hsi'
              rw [← hr0, ← hr1, ← hr2, ← hr3] at hsi'
              have hbl : (body l).length = n := by unfold body; rw [List.length_take, List.length_drop, HS.out]; omega
              have HC : ∀ s : Later W, Calls Tryd.prog 13 #[.slice (if c = 12 then some ⟨b, o, none⟩ else some ⟨b, o + 12, none⟩) n (c - 12)] s.1 fun e w' => e = .returned (.agg #[.int .u8 (r0 : Int), .int .u8 (r1 : Int), .int .u8 (r2 : Int), .int .u8 (r3 : Int)]) ∧ Below s.1.heap.size s.1 w' := fun s => by
                have hs := hwb.trans (s.2.mono (by omega))
                have hb : BytesAt s.1 (if c = 12 then some ⟨b, o, none⟩ else some ⟨b, o + 12, none⟩) (body l) := by
                  by_cases hc : c = 12
                  · rw [List.eq_nil_of_length_eq_zero (show (body l).length = 0 by omega)]; exact BytesAt.nil _ _
                  · rw [if_neg hc]; exact ((HL.out.below hs).drop 12).take _
                have h := checksum_n _ n (c - 12) (body l) s.1 hb (by omega) (HT.out.below hs) hbl.symm
                unfold sumCells at h
                rw [hr0, hr1, hr2, hr3]
                simpa using h
              have HCC := Lib.hid HC
              have HSI := Lib.hid hsi'
              have HBL := Lib.hid hbl
              have HWB := Lib.hid hwb
              clear HC hsi' hbl hwb hz8 hz9 hz10 hz11 hr0 hr1 hr2 hr3 hW q2 q3 q4 q5 q6 q7 N2 N3 N4
              have hL := @Later.cell W
              by_cases hsum : sumIs l (crc (body l))
              · obtain ⟨e0, e1, e2, e3⟩ := HSI.out.1 hsum
                have HE := Lib.hid (HE1.out _ (if_neg (fun c => c hsum)))
                clear hsum
                subst e0 e1 e2 e3
                refine wp_region_later (by kernel_rfl) (by kernel_rfl) ?_
                repeat (go_big_quiet_step ((go_at_call 13; exact Calls.later (HCC.out _))))
                refine wpQuiet_nil ?_
                rintro w1 ⟨⟨_, hb1⟩, rfl⟩
                go_wp2
                all_goals
                  go_ret2
                  exact .of HE.out (by omega) rfl (HWB.out.trans (hb1.mono HWB.out.size))
              · have hq : (!(r0 : Int) == (z8 : Int) || !(r1 : Int) == (z9 : Int) || !(r2 : Int) == (z10 : Int) || !(r3 : Int) == (z11 : Int)) = true := by
                  cases hb : ((r0 : Int) == (z8 : Int) && (r1 : Int) == (z9 : Int) && (r2 : Int) == (z10 : Int) && (r3 : Int) == (z11 : Int)) with
                  | false => rw [← Bool.not_and, ← Bool.not_and, ← Bool.not_and, hb]; rfl
                  | true =>
                    exfalso
                    simp only [Bool.and_eq_true, beq_iff_eq] at hb
                    exact hsum (HSI.out.2 ⟨by omega, by omega, by omega, by omega⟩)
                have HE := Lib.hid (HE1.out _ (if_pos hsum))
                clear hsum
                refine wp_region_later (by kernel_rfl) (by kernel_rfl) ?_
                repeat (go_big_quiet_step ((go_at_call 13; exact Calls.later (HCC.out _))))
                refine wpQuiet_nil ?_
                rintro w1 ⟨⟨_, hb1⟩, rfl⟩
                go_wp2
                all_goals
                  go_ret2
                  exact .of HE.out rfl rfl (HWB.out.trans (hb1.mono HWB.out.size))
        · have hq : (!(x5 : Int) == (y2 : Int) || !(x6 : Int) == (y3 : Int) || !(x7 : Int) == (y4 : Int)) = true := by
            cases hb : ((x5 : Int) == (y2 : Int) && (x6 : Int) == (y3 : Int) && (x7 : Int) == (y4 : Int)) with
            | false => rw [← Bool.not_and, ← Bool.not_and, hb]; rfl
            | true =>
              exfalso
              simp only [Bool.and_eq_true, beq_iff_eq] at hb
              exact hn (HNO.out.2 ⟨by omega, by omega, by omega⟩)
          have HE := Lib.hid (HE0.out (0, 91) (by rw [if_neg h8, if_pos hn]))
          clear hn h8
          go_wp2
          go_quiet (fail)
          go_wp2
          go_ret2
          exact .of HE.out rfl rfl (Below.drewN' (Below.refl _ _) _)
end Go.Proofs.YtooagpjfcnpheaaDoor
