/- XformCaretStays_card, part 41. -/
import Derived.Test.YtloccjkcmlkifaaDoorQCs40
import Derived.Test.YtloccjkcmlkifaaDoorQCs17
import Derived.Test.YtloccjkcmlkifaaDoorQCs28
import Derived.Test.YtloccjkcmlkifaaDoorQCs34

section
/- The operations of specs, each made behind those ahead of it: run. -/
namespace Go.Proofs.YtloccjkcmlkifaaDoor
open Go.RowKit Go.Proofs.YtloccjkcmlkifaaDoor.PAll Go.Proofs.YtloccjkcmlkifaaDoorW.PrintWords Go.Proofs.YtloccjkcmlkifaaDoorW.PrintLast

def SpecsC (w : World) (v : Value) (n : Nat) : Prop := ∃ A c, v = .slice A n c ∧ n ≤ c ∧ ∀ i, i < n → ∃ ad kd at_ m P cp, ∃ (l : List Int) (on : Bool), A = some ad ∧
 (∀ W, Below w.heap.size w W → atL W (ad.add (i * 5)) 0 [.int .i64 kd, .int .i64 at_, .int .i64 m, .slice P l.length cp, .bool on]) ∧ l.length ≤ cp ∧ Kd.C (Kd.int .i64) w P l.length l
inductive MadeRun (ci : Int) (n0 : Nat) : List S41 → Nat → Prop
 | nil : MadeRun ci n0 [] n0
 | snoc {l : List S41} {n : Nat} {o : S41} : MadeRun ci n0 l n → MadeOK o ci ((l.length : Int) + 1) n → MadeRun ci n0 (l ++ [o]) (n + (wid o).toNat)
theorem MadeRun.bound {ci : Int} {n0 : Nat} {l : List S41} {n : Nat} (h : MadeRun ci n0 l n) : n0 ≤ n ∧ n ≤ n0 + 5 * l.length := by
 induction h with
 | nil => simp
 | snoc _ ho ih =>
  have := ho.stands.wid
  rw [List.length_append, List.length_singleton]
  omega
set_option maxRecDepth 100000 in
set_option maxHeartbeats 4000000 in
theorem run_any (ci : Int) (n0 sn : Nat) (vs : Value) (w : World) (hT : GT w) (hs : SpecsC w vs sn) (hn : n0 ≤ 900) (hsn : sn ≤ 281474976710656) :
 Calls Tryd.prog 20 #[vs, .int .i64 ci, .int .i64 n0] w fun e w' => ∃ u l n, e = .returned u ∧ MadeRun ci n0 l n ∧ l.length ≤ 12 ∧ OwnRun w' w.heap.size u l ∧ Below w.heap.size w w' := by
 obtain ⟨A, c, rfl, h1, h2⟩ := hs
 have HT := Aside0.mk hT; have HE := Aside0.mk h2
 clear hT h2
 go_enter Tryd.func20, Tryd.ntmps20
 go_wp2_with (fail)
 go_loopw [2, 7, 8] (fun t' u' i' wr => ∃ (k tot : Nat) (acc : List S41), k ≤ 12 ∧ k ≤ sn ∧ i' = .int .i64 (k : Int) ∧ t' = .int .i64 (tot : Int) ∧ acc.length = k ∧ Aside0 (MadeRun ci n0 acc tot) ∧ Aside0 (Kd.S k41 41 wr w.heap.size (fun _ => True) u' acc) ∧ Aside0 (Below w.heap.size w wr)) (fun _ _ i' _ => 12 - (intOf i').toNat)
 case atStart => exact ⟨0, n0, [], by omega, by omega, rfl, rfl, rfl, ⟨.nil⟩, ⟨Kd.S_nil _ _ _ _ _⟩, ⟨Below.refl _ _⟩⟩
 case round =>
  obtain ⟨k, tot, acc, hk, hks, rfl, rfl, hl, HM, HS, HB⟩ := hrel
  have HL := Aside0.mk hl
  have HTB := Aside0.mk (show tot ≤ 1000 by have := HM.out.bound; omega)
  clear hl
  by_cases hlt : k < sn
  · by_cases c12 : k < 12
    · obtain ⟨ad, kd, at_, m, P, cp, l, on, rfl, hat, hpl, hpc⟩ := HE.out k hlt
      have HAT := Aside0.mk hat; have HPL := Aside0.mk hpl; have HPC := Aside0.mk hpc
      have c12' : decide ((k : Int) < 12) = true := decide_eq_true (by omega)
      clear hat hpl hpc
      go_wp2_with (first | ((with_reducible refine gate_load rfl ?_); refine ev_ext #[.int .i64 kd, .int .i64 at_, .int .i64 m, .slice P l.length cp, .bool on] (HAT.out _ HB.out) ?_ (hu := Tryd.underlying57)) | (go_at_call 29; (with_reducible refine (made_in _ _ _ _ _ _ _ _ _ tot _ (GT.below HT.out HB.out) (Kd.C_below HPC.out HB.out) HPL.out HTB.out).mono ?_); rintro e_ w7 ⟨o, v, rfl, hOK, hR, hb⟩; obtain ⟨Ao, co, rfl⟩ := hR.slice; have HS2 := Aside0.mk (Kd.S_elder' HS.out (Kd.R_base hR) hb); have HO2 : Aside0 (OpR w7 w.heap.size (.slice Ao o.f3.length co) o) := ⟨Kd.R_lower hR (below_size HB.out)⟩; replace HB := Aside0.mk (below_then HB.out (below_size HB.out) hb); have S := Aside0.mk (St.init w7 (F := fun _ => True) (fun _ _ => trivial)); have HOK := Aside0.mk hOK; have hq : IntKind.i64.wrap ((tot : Int) + wid o) = (tot : Int) + wid o := IntWalk.i64_in _ (by have := hOK.stands.wid; have := HTB.out; omega); clear hb hR hOK) | ((with_reducible refine gate_new rfl ?_); refine ev_new S 41 zA ?_; clear S; intro _ _ S) | ((with_reducible refine gate_load rfl ?_); refine ev_load S ?_) | ((with_reducible refine gate_st rfl ?_); refine ev_store S ?_; clear S; intro _ S) | (go_at_call 28; (with_reducible refine (lwid_any HOK.out.stands _ _ (HO2.out.C.below S.out.below)).mono ?_); rintro e_ w7 ⟨rfl, hb⟩; replace S := Aside0.mk (S.out.step hb); clear hb) | ((with_reducible refine gate_builtin (b := .append) (xs := #[.tmp 34, .tmp 36]) rfl ?_); at_builtin; refine Kd.S_append k41 (w0 := w) w.heap.size rfl (.tmp 34) (.tmp 36) 29 41 (.agg zA) 96 rfl Tryd.underlying29 info41 rfl (by decide) (by omega) u7 acc o (opA o (.slice Ao o.f3.length co)).toList (fun _ => True) (fun k_ => some k_ = (.slice Ao o.f3.length co : Value).ownBlock) rfl rfl ?aP ?aK (fun _ _ => trivial) ?aO ?aB ?aS ?aL ?_; (case aP => exact k41_mkM _ _ _ o (Kd.R_mono (Kd.R_tight rfl (Kd.R_below HO2.out S.out.below)) (fun _ h_ => h_))); (case aK => exact fun k_ hk_ => (Kd.R_mono (ok' := fun k_ => True ∧ some k_ ≠ (u7 : Value).ownBlock) (Kd.R_apart' (Kd.R_below HO2.out S.out.below) (Kd.S_typed (Kd.S_below HS2.out S.out.below)) (by decide)) (fun k_ hk => ⟨trivial, hk.2⟩)).1 k_ hk_.symm); (case aO => exact Kd.S_mono (Kd.S_below HS2.out S.out.below) (fun k_ hk => ⟨trivial, fun e_ => hk.2 e_⟩)); (case aB => exact below_then HB.out (below_size HB.out) S.out.below); (case aS => exact Nat.le_trans (below_size HB.out) (below_size S.out.below)); (case aL => have := HL.out; omega); intro v_ w9 ho hb _ _; have HS3 := Aside0.mk ho; have HB3 := Aside0.mk hb; clear ho hb))
      go_roundw
      case rel => exact ⟨k + 1, tot + (wid o).toNat, acc ++ [o], by omega, by omega, by go_num, by have := HOK.out.stands.wid; rw [show ((tot + (wid o).toNat : Nat) : Int) = (tot : Int) + wid o by omega], by rw [List.length_append, HL.out]; rfl, ⟨.snoc HM.out (by rw [HL.out]; exact HOK.out)⟩, HS3, HB3⟩
      case measure => simp [intOf]; omega
    · have c12' : decide ((k : Int) < 12) = false := decide_eq_false (by omega)
      go_wp2_with (fail)
      go_ret
      exact ⟨_, acc, tot, rfl, HM.out, by rw [HL.out]; omega, HS.out, HB.out⟩
  · go_wp2_with (fail)
    go_ret
    exact ⟨_, acc, tot, rfl, HM.out, by rw [HL.out]; omega, HS.out, HB.out⟩
end Go.Proofs.YtloccjkcmlkifaaDoor
end

section
/- What the outright laws are handed: two tables that lie where they lie; a context, lists of specs. -/
namespace Go.Proofs.YtloccjkcmlkifaaDoor
open Go.ChangeShapes Go.WideShapes Go.ChangeAt Go.RowKit Go.Proofs.YtloccjkcmlkifaaDoorW.PrintWords Go.Proofs.YtloccjkcmlkifaaDoor.PAll

theorem bars_of_vars {W : World} {rest : List (String × DataW Unit)} {ps : List MemPlace} (h : DataW.LaidVars Tryd.prog W (("redraft/utext.bars", Rows.laid_redraft_utext_bars) :: rest) ps) : GW W := by
 obtain ⟨g, t, cs, fuel, p, q, hg, ht, hvar, hd, _, _⟩ := h
 obtain rfl : 1 = g := Option.some.inj ((show Tryd.prog.globalNamed "redraft/utext.bars" = some 1 by kernel_rfl).symm.trans hg)
 obtain rfl : 144 = t := Option.some.inj ((show (Tryd.prog.globals[1]?).map (·.type) = some 144 by kernel_rfl).symm.trans ht)
 have hs := bars_shape (zs := barsL) Tryd.underlying144 Tryd.underlying143 Tryd.underlying21 Tryd.underlying21 rfl rfl (by kernel_rfl) (by kernel_rfl) (by kernel_rfl) rfl hd
 have hc : ∀ o, W.cell? ⟨1, o, none⟩ = cs[o]? := fun o => World.var?_cell hg hvar o
 have hcell : ∀ j, j < 5 → W.cell? ⟨1, j * 2, none⟩ = some (.int .i32 (barsL.getD j (0, 0)).1) ∧ W.cell? ⟨1, j * 2 + 1, none⟩ = some (.int .i32 (barsL.getD j (0, 0)).2) := fun j hj => by
  obtain ⟨e0, e1⟩ := hs j hj
  rw [hc, hc, ← Array.getElem?_toList, ← Array.getElem?_toList]
  exact ⟨e0, e1⟩
 exact ⟨World.block_lt_of_cell? W ⟨1, 0, none⟩ (hcell 0 (by decide)).1, hcell⟩
theorem texts_shape {P : Program} {w : World} {fuel : Nat} {t e : TypeId} {n : Nat} {cs : List Value} {zs : List (List UInt8)} {p : List MemPlace}
 (ht : P.underlying t = some (.array n e)) (he : P.underlying e = some .string) (ce : P.cellsOf e = 1) (hn : n = zs.length)
 (h : DataW.trod (fun _ => ()) P w 0 (fun _ => true) false fuel t cs = some (.agg (zs.map fun z => .lit (.string z)), p)) :
 ∀ j, j < n → ∃ s : ByteArray, cs[j]? = some (.string s) ∧ s.data.toList = zs.getD j [] := by
 obtain ⟨xs, m, _, hx, hl, hlen, hf⟩ := DataW.trod_array ht h
 simp only [Prod.mk.injEq, DataW.agg.injEq] at hx
 intro j hj
 have hj2 : j < xs.length := by omega
 have h1 := hf j hj
 rw [List.getElem?_eq_getElem hj2, ce, Nat.mul_one] at h1
 obtain ⟨s, hs, hy, _⟩ := DataW.trod_string he h1
 have hz : (xs.map (·.1))[j]? = (zs.map fun z => (DataW.lit (.string z) : DataW Unit))[j]? := by rw [hx.1]
 rw [List.getElem?_map, List.getElem?_map, List.getElem?_eq_getElem hj2, List.getElem?_eq_getElem (by omega : j < zs.length)] at hz
 simp only [Option.map_some, Option.some.injEq] at hz
 rw [hy] at hz
 simp only [DataW.lit.injEq, Lit.string.injEq] at hz
 refine ⟨s, ?_, by rw [List.getD_eq_getElem?_getD, List.getElem?_eq_getElem (by omega : j < zs.length)]; exact hz⟩
 have : ((cs.drop j).take 1)[0]? = some (.string s) := by rw [hs]; rfl
 rw [List.getElem?_take_of_lt (by omega), List.getElem?_drop] at this
 simpa using this
theorem bytes_eq {s t : ByteArray} (h : s.data.toList = t.data.toList) : s = t := by
 cases s; cases t
 simp only [ByteArray.mk.injEq]
 exact Array.toList_inj.1 h
theorem tabs_of {W : World} (h : laidMetH Tryd.prog [("redraft/utext.bars", Rows.laid_redraft_utext_bars), ("redraft/redraftlaw05.texts", Rows.laid_redraft_redraftlaw05_texts)] W) : GW W ∧ GT W := by
 have h' : laidMet Tryd.prog [("redraft/utext.bars", Rows.laid_redraft_utext_bars), ("redraft/redraftlaw05.texts", Rows.laid_redraft_redraftlaw05_texts)] W := h
 obtain ⟨ps, hv, _⟩ := h'
 refine ⟨bars_of_vars hv, ?_⟩
 obtain ⟨_, _, _, _, _, q, _, _, _, _, h2, _⟩ := hv
 obtain ⟨g, t, cs, fuel, p, q2, hg, ht, hvar, hd, _, _⟩ := h2
 obtain rfl : 0 = g := Option.some.inj ((show Tryd.prog.globalNamed "redraft/redraftlaw05.texts" = some 0 by kernel_rfl).symm.trans hg)
 obtain rfl : 50 = t := Option.some.inj ((show (Tryd.prog.globals[0]?).map (·.type) = some 50 by kernel_rfl).symm.trans ht)
 have hs := texts_shape (zs := txL.map (·.data.toList)) Tryd.underlying50 Tryd.underlying9 (by kernel_rfl) rfl hd
 have hcell : ∀ j, j < 5 → W.cell? ⟨0, j, none⟩ = some (.string (tx j)) := fun j hj => by
  obtain ⟨s, e0, e1⟩ := hs j hj
  rw [World.var?_cell hg hvar j, ← Array.getElem?_toList, e0]
  congr 2
  refine bytes_eq (e1.trans ?_)
  match j, hj with
  | 0, _ => rfl
  | 1, _ => rfl
  | 2, _ => rfl
  | 3, _ => rfl
  | 4, _ => rfl
 exact ⟨World.block_lt_of_cell? W ⟨0, 0, none⟩ (hcell 0 (by decide)), hcell⟩
noncomputable def tabWorld (os : Os) : World :=
 let w0 := laidWorld os
 { w0 with heap := w0.heap.modify 0 fun
  | .cells _ t frozen => .cells #[.string ⟨#[97]⟩, .string ⟨#[97, 195, 169]⟩, .string ⟨#[226, 130, 172, 97, 195, 169]⟩, .string ⟨#[122, 195, 169, 240, 159, 152, 128, 97]⟩, .string ⟨#[97, 98, 99, 100, 101]⟩] t frozen
  | o => o }
section
variable {H : Type} {enc : TypeId × Value → H} {w : World} {cs : List Value}
theorem red_row {P : Program} {t : TypeId} {α : Type} {e : TypeId} (d : Kd α) (z : α) (ht : P.underlying t = some (.slice e)) (hc : P.cellsOf e = d.sz) (hpos : 0 < d.sz) (hby : 0 < P.bytesOf e) (he : ∀ cs', Red enc P w e cs' → ∃ x, d.K w x cs') (h : Red enc P w t cs) :
 ∃ (A : Option Addr) (c : Nat) (l : List α), cs = [.slice A l.length c] ∧ l.length ≤ c ∧ d.C w A l.length l := by
 obtain ⟨A, n, c, rfl, h1, h2, h3, h4, h5⟩ := red_slice ht (by omega) h
 rw [hc] at h5
 have hcb : c ≤ 140737488351232 := Nat.le_trans (Nat.le_mul_of_pos_right c hby) h2
 have hf2 : ∀ i, ∃ x : α, i < n → (∃ b o, A = some ⟨b, o, none⟩ ∧ ∃ cs', cs'.length = d.sz ∧ (∀ j, j < d.sz → w.cell? ⟨b, o + (i * d.sz + j), none⟩ = cs'[j]?) ∧ d.K w x cs') := by
  intro i
  by_cases hi : i < n
  · obtain ⟨b, o, hA, hb⟩ := h3 (by omega)
    obtain ⟨cs', hl, hcell, hr⟩ := h5 b o hA i (by omega)
    obtain ⟨x, hx⟩ := he cs' hr
    exact ⟨x, fun _ => ⟨b, o, hA, cs', hl, hcell, hx⟩⟩
  · exact ⟨z, fun h => absurd h hi⟩
 obtain ⟨f, hf3⟩ := Classical.axiomOfChoice hf2
 refine ⟨A, c, (List.range n).map f, by simp, by simpa using h1, ?_⟩
 refine ⟨by simp, by simp; omega, fun hn => ?_⟩
 have hn' : 0 < n := by simpa using hn
 obtain ⟨b, o, hA, hb⟩ := h3 (by omega)
 refine ⟨⟨b, o, none⟩, hA, fun j p hp => ?_⟩
 obtain ⟨hj, rfl⟩ := List.getElem?_eq_some_iff.1 hp
 have hj' : j < n := by simpa using hj
 obtain ⟨b', o', hA', cs', hl, hcell, hK⟩ := hf3 j hj'
 rw [hA] at hA'
 cases hA'
 refine ⟨cs', hl, by simpa using hK, fun i u hu => ?_⟩
 have hi : i < d.sz := by rw [← hl]; exact (List.getElem?_eq_some_iff.1 hu).1
 have e : (⟨b, o, none⟩ : Addr).add (j * d.sz + i) = ⟨b, o + (j * d.sz + i), none⟩ := by
  unfold Addr.add
  split
  · rename_i h0; rw [h0, Nat.add_zero]
  · rfl
 rw [e, hcell i hi, hu]
theorem d3 : Tryd.prog.cellsOf 3 = 1 := by kernel_rfl
theorem d4 : Tryd.prog.cellsOf 4 = 1 := by kernel_rfl
theorem d22 : Tryd.prog.cellsOf 22 = 1 := by kernel_rfl
theorem d23 : Tryd.prog.cellsOf 23 = 1 := by kernel_rfl
theorem d25 : Tryd.prog.cellsOf 25 = 7 := by kernel_rfl
theorem d57 : Tryd.prog.cellsOf 57 = 5 := by kernel_rfl
theorem red_ints (h : Red enc Tryd.prog w 23 cs) : ∃ (A : Option Addr) (c : Nat) (l : List Int), cs = [.slice A l.length c] ∧ l.length ≤ c ∧ Kd.C (Kd.int .i64) w A l.length l :=
 red_row (Kd.int .i64) 0 Tryd.underlying23 d3 (by decide) (of_decide_eq_true (by kernel_rfl)) (fun cs' h => by
  obtain ⟨x, rfl, _⟩ := red_int Tryd.underlying3 h
  exact ⟨x, rfl⟩) h
set_option maxRecDepth 100000 in
theorem red_spec (h : Red enc Tryd.prog w 57 cs) : ∃ kd at_ m P cp, ∃ (l : List Int) (on : Bool), cs = [.int .i64 kd, .int .i64 at_, .int .i64 m, .slice P l.length cp, .bool on] ∧ l.length ≤ cp ∧ Kd.C (Kd.int .i64) w P l.length l := by
 obtain ⟨hl, hr⟩ := red_struct Tryd.underlying57 h
 rw [d57] at hl
 match cs, hl with
 | [x0, x1, x2, x3, x4], _ =>
  obtain ⟨n0, e0, _⟩ := red_int Tryd.underlying3 (hr 0 _ rfl)
  obtain ⟨n1, e1, _⟩ := red_int Tryd.underlying3 (hr 1 _ rfl)
  obtain ⟨n2, e2, _⟩ := red_int Tryd.underlying3 (hr 2 _ rfl)
  obtain ⟨A, c, l, e3, h1, h2⟩ := red_ints (hr 3 _ rfl)
  obtain ⟨b, e4⟩ := red_bool Tryd.underlying4 (hr 4 _ rfl)
  simp [d3, d23, d4] at e0 e1 e2 e3 e4
  subst e0 e1 e2 e3 e4
  exact ⟨n0, n1, n2, A, c, l, b, rfl, h1, h2⟩
theorem red_specs (h : Red enc Tryd.prog w 22 cs) : ∃ A n c, cs = [.slice A n c] ∧ SpecsC w (.slice A n c) n ∧ n ≤ 281474976710656 := by
 obtain ⟨A, n, c, rfl, h1, h2, h3, h4, h5⟩ := red_slice Tryd.underlying22 (by rw [d57]; decide) h
 rw [d57] at h5
 have hcb : c ≤ 140737488351232 := Nat.le_trans (Nat.le_mul_of_pos_right c (of_decide_eq_true (by kernel_rfl))) h2
 refine ⟨A, n, c, rfl, ⟨A, c, rfl, h1, fun i hi => ?_⟩, by omega⟩
 obtain ⟨b, o, hA, hb⟩ := h3 (by omega)
 obtain ⟨cs', hl, hcell, hr⟩ := h5 b o hA i (by omega)
 obtain ⟨kd, at_, m, P, cp, l, on, rfl, h6, h7⟩ := red_spec hr
 refine ⟨⟨b, o, none⟩, kd, at_, m, P, cp, l, on, hA, fun W hW => atL_mk fun j v hj => ?_, h6, h7⟩
 have hj5 : j < 5 := (List.getElem?_eq_some_iff.1 hj).1
 have hc := hcell j hj5
 rw [hj] at hc
 have e : ((⟨b, o, none⟩ : Addr).add (i * 5)).add (0 + j) = ⟨b, o + (i * 5 + j), none⟩ := by
  unfold Addr.add
  by_cases hi0 : i * 5 = 0 <;> by_cases hj0 : j = 0 <;> simp [hi0, hj0, Nat.add_assoc]
  all_goals (try (have : i = 0 := by omega); try subst this; simp)
 rw [e]
 exact pw_cell_below hW hc
set_option maxRecDepth 100000 in
theorem red_two (h : Red enc Tryd.prog w 25 cs) : ∃ len A n c B m d i j, ∃ (e : Bool) (v : Value), cs = [.int .i64 len, .slice A n c, .slice B m d, .int .i64 i, .int .i64 j, .bool e, v] ∧ SpecsC w (.slice A n c) n ∧ n ≤ 281474976710656 ∧ SpecsC w (.slice B m d) m ∧ m ≤ 281474976710656 ∧ (Lit.int .i64 i).wf = true ∧ (Lit.int .i64 j).wf = true := by
 obtain ⟨hl, hr⟩ := red_struct Tryd.underlying25 h
 rw [d25] at hl
 match cs, hl with
 | [x0, x1, x2, x3, x4, x5, x6], _ =>
  obtain ⟨n0, e0, _⟩ := red_int Tryd.underlying3 (hr 0 _ rfl)
  obtain ⟨A, n, c, e1, h1, h2⟩ := red_specs (hr 1 _ rfl)
  obtain ⟨B, m, d, e2, h3, h4⟩ := red_specs (hr 2 _ rfl)
  obtain ⟨n3, e3, w3⟩ := red_int Tryd.underlying3 (hr 3 _ rfl)
  obtain ⟨n4, e4, w4⟩ := red_int Tryd.underlying3 (hr 4 _ rfl)
  obtain ⟨b, e5⟩ := red_bool Tryd.underlying4 (hr 5 _ rfl)
  simp [d3, d22, d4] at e0 e1 e2 e3 e4 e5
  subst e0 e1 e2 e3 e4 e5
  exact ⟨n0, A, n, c, B, m, d, n3, n4, b, x6, rfl, h1, h2, h3, h4, w3, w4⟩
end
end Go.Proofs.YtloccjkcmlkifaaDoor
end

section
/- A gap behind a cell stays behind that cell: plain lists. -/
namespace Go.Proofs.YtloccjkcmlkifaaDoor
open Go.RowKit Go.Proofs.YtloccjkcmlkifaaDoor.PAll Go.Proofs.YtloccjkcmlkifaaDoorW.PrintWords

theorem cnt_wrap1 {n : Nat} (h : n < 1048576) : wrap64 ((n : Int) + 1) = (n : Int) + 1 := wrap_id (by omega) (by omega)
theorem cnt_step1 {n : Nat} (h : n < 1048576) : Value.int .i64 (wrap64 ((n : Int) + 1)) = Value.int .i64 ((n + 1 : Nat) : Int) := by rw [cnt_wrap1 h]; rfl
theorem cnt_less1 {n m : Nat} (h : n < 1048576) (h2 : n < m) : m - (intOf (.int .i64 (wrap64 ((n : Int) + 1)))).toNat < m - (intOf (.int .i64 (n : Int))).toNat := by
 rw [cnt_wrap1 h]
 show m - ((n : Int) + 1).toNat < m - (n : Int).toNat
 omega
theorem made_good {o : S41} {c m : Int} {n : Nat} (h : MadeOK o c m n) (hn : n ≤ 1000) (hc : 1 ≤ c ∧ c ≤ 2) (hm : 1 ≤ m ∧ m ≤ 1024) : Good o := by
 have hid : ¬ badID o := by
  unfold badID
  rw [h.id]
  rintro ⟨_, h2⟩
  unfold isID at h2
  have := of_decide_eq_false h2
  simp only at this
  omega
 have hk := h.stands.kind
 have hex : extraB o = false := by
  unfold extraB
  refine decide_eq_false fun q => ?_
  rcases (by omega : o.f0.f1 = 1 ∨ (o.f0.f1 = 2 ∨ o.f0.f1 = 3) ∨ o.f0.f1 = 4) with k | k | k
  · obtain ⟨h3, h4, h5⟩ := h.ins k
    rw [h3, h4, h5, k] at q
    simp at q
  · obtain ⟨h1, h2, h4, h5⟩ := h.cov k
    rw [h1, h2, h4, h5] at q
    rcases q with q | q | q
    · exact absurd q.2 (by simp)
    · exact absurd k (by omega)
    · simp at q
  · obtain ⟨h1, h2, h3, _⟩ := h.sta k
    rw [h1, h2, h3, k] at q
    simp at q
 rcases (by omega : o.f0.f1 = 1 ∨ (o.f0.f1 = 2 ∨ o.f0.f1 = 3) ∨ o.f0.f1 = 4) with k | k | k
 · obtain ⟨p1, p2, j, hj, e⟩ := h.stands.ins k
   obtain ⟨q1, q2, q3⟩ := tx_chk j hj
   rw [← e] at q1 q2 q3
   exact ⟨own_mk_ins k hid hex q2 (by omega) (by omega), by omega, by rw [(h.ins k).1]; simp⟩
 · obtain ⟨h1, h2, h3⟩ := h.stands.cov k
   have h4 := nrm_len h2 (by omega) h1
   refine ⟨own_mk_cov k hid hex h1 (by rw [ok_rng (by omega) h2]) (by omega), by rw [(h.cov k).2.1]; decide, by omega⟩
 · obtain ⟨h1, h2, h3, h4, h5, h6⟩ := h.sta k
   refine ⟨?_, by rw [h2]; decide, by rw [h3]; decide⟩
   have ht : totOf o = 1048576 := by unfold totOf; rw [if_neg (by omega)]
   unfold ownE checkE
   rw [ht, if_neg (by omega), if_neg (by omega), if_neg hid, if_neg (by rw [hex]; simp), if_neg (by omega), if_pos k]
   unfold staE
   rw [if_pos]
   refine ⟨by unfold isID; exact decide_eq_true (by omega), ?_⟩
   rw [h.id]
   simp only
   omega
theorem doesE_len {l : List S48} {o : S41} (h : Stands o l.length) : (doesE l o).length = l.length + (wid o).toNat := by
 unfold doesE
 by_cases c1 : o.f0.f1 = 1
 · rw [if_pos c1]; have := h.ins c1; exact insC_len l o (by omega)
 · have hw : wid o = 0 := if_neg c1
   rw [if_neg c1, hw]
   by_cases c2 : o.f0.f1 = 2
   · rw [if_pos c2, hidC_len]; rfl
   · rw [if_neg c2]
     by_cases c3 : o.f0.f1 = 3
     · rw [if_pos c3, hidC_len]; rfl
     · rw [if_neg c3]; rfl
theorem foldE_snoc : ∀ (l : List S48) (a : List S41) (o : S41), foldE l (a ++ [o]) = doesE (foldE l a) o
 | _, [], _ => rfl
 | l, x :: t, o => foldE_snoc (doesE l x) t o
theorem standsL_snoc : ∀ (l : List S48) (a : List S41) (o : S41), StandsL l a → Stands o (foldE l a).length → (foldE l a).length ≤ 1000 → StandsL l (a ++ [o])
 | _, [], _, _, h1, h2 => ⟨h1, h2, trivial⟩
 | l, x :: t, o, h, h1, h2 => ⟨h.1, h.2.1, standsL_snoc (doesE l x) t o h.2.2 h1 h2⟩
theorem MadeRun.stands {ci : Int} {n0 : Nat} {a : List S41} {n : Nat} (h : MadeRun ci n0 a n) {l : List S48} (hl : l.length = n0) : n ≤ 1000 → StandsL l a ∧ (foldE l a).length = n := by
 induction h with
 | nil => exact fun _ => ⟨trivial, hl⟩
 | snoc hr ho ih =>
  intro hb
  obtain ⟨h1, h2⟩ := ih (by omega)
  have hs := ho.stands
  rw [← h2] at hs
  refine ⟨standsL_snoc _ _ _ h1 hs (by omega), ?_⟩
  rw [foldE_snoc, doesE_len hs, h2]
theorem MadeRun.good {ci : Int} {n0 : Nat} {a : List S41} {n : Nat} (h : MadeRun ci n0 a n) (hc : 1 ≤ ci ∧ ci ≤ 2) : n ≤ 1000 → a.length ≤ 1000 → ∀ o ∈ a, Good o := by
 induction h with
 | nil => intro _ _ o ho; cases ho
 | snoc hr ho ih =>
  intro hb hl x hx
  rw [List.length_append, List.length_singleton] at hl
  rcases List.mem_append.1 hx with hx | hx
  · exact ih (by omega) (by omega) x hx
  · rw [List.mem_singleton.1 hx]; exact made_good ho (by omega) hc (by omega)

def Behind (l : List S48) (c g : Int) : Prop := c = 0 ∧ g = 0 ∨ 0 < c ∧ 0 < g ∧ g ≤ (l.length : Int) ∧ ∃ x, l[(g - 1).toNat]? = some x ∧ x.f0.f0 = 0 ∧ x.f0.f1 = 0 ∧ x.f1 = c - 1
theorem Behind.range {l : List S48} {c g : Int} (h : Behind l c g) : 0 ≤ g ∧ g ≤ (l.length : Int) := by
 rcases h with ⟨_, h⟩ | ⟨_, h1, h2, _⟩ <;> omega
theorem behind_row (n : Nat) (c : Int) (h0 : 0 ≤ c) (hc : c ≤ (n : Int)) : Behind (rowE n) c c := by
 by_cases h : c = 0
 · exact .inl ⟨h, h⟩
 · refine .inr ⟨by omega, by omega, by unfold rowE; simp; omega, ⟨⟨0, 0⟩, (((c - 1).toNat : Nat) : Int), 0⟩, ?_, rfl, rfl, by show (((c - 1).toNat : Nat) : Int) = c - 1; omega⟩
   unfold rowE
   rw [List.getElem?_map, List.getElem?_range (by omega)]
   rfl
theorem caret_step {l : List S48} {o : S41} {c g : Int} (hS : Stands o l.length) (hG : Good o) (hl : l.length ≤ 1000) (h : Behind l c g) : (caretE g o).2 = 0 ∧ Behind (doesE l o) c (caretE g o).1 := by
 have hr := h.range
 have hw := hS.wid
 unfold caretE
 rw [if_pos hG.own, if_neg (by omega)]
 by_cases k : o.f0.f1 = 1
 · obtain ⟨p1, p2, _⟩ := hS.ins k
   have hd : doesE l o = insC l o := by unfold doesE; rw [if_pos k]
   have hlen := insC_len l o (by omega)
   rw [hd]
   by_cases c1 : g ≤ o.f1
   · rw [if_pos (.inr c1)]
     refine ⟨rfl, ?_⟩
     rcases h with h | ⟨h1, h2, h3, x, hx, h4⟩
     · exact .inl h
     · refine .inr ⟨h1, h2, by show g ≤ _; rw [hlen]; omega, x, ?_, h4⟩
       show (insC l o)[(g - 1).toNat]? = some x
       unfold insC
       rw [List.append_assoc, List.getElem?_append_left (by simp; omega), List.getElem?_take_of_lt (by omega)]
       exact hx
   · rw [if_neg (fun q => q.elim (fun q => q k) c1), if_neg (by omega)]
     refine ⟨rfl, ?_⟩
     rcases h with h | ⟨h1, h2, h3, x, hx, h4⟩
     · omega
     · refine .inr ⟨h1, by show 0 < g + wid o; omega, by show g + wid o ≤ _; rw [hlen]; omega, x, ?_, h4⟩
       show (insC l o)[(g + wid o - 1).toNat]? = some x
       unfold insC newC
       rw [List.getElem?_append_right (by simp; omega), List.getElem?_drop, ← hx]
       congr 1
       simp
       omega
 · rw [if_pos (.inl k)]
   refine ⟨rfl, ?_⟩
   have keep : ∀ b, Behind (hidC b o.f3 l) c g := fun b => by
    rcases h with h | ⟨h1, h2, h3, x, hx, h4, h5, h6⟩
    · exact .inl h
    · refine .inr ⟨h1, h2, by rw [hidC_len]; exact h3, if covB o.f3 (g - 1).toNat = true then bumpC b x else x, ?_, ?_⟩
      · rw [hidC_at, hx]; rfl
      · split
        · exact ⟨h4, h5, h6⟩
        · exact ⟨h4, h5, h6⟩
   unfold doesE
   rw [if_neg k]
   by_cases c2 : o.f0.f1 = 2
   · rw [if_pos c2]; exact keep _
   · rw [if_neg c2]
     by_cases c3 : o.f0.f1 = 3
     · rw [if_pos c3]; exact keep _
     · rw [if_neg c3]; exact h
def carets (g : Int) (a : List S41) : Int := a.foldl (fun g o => (caretE g o).1) g
theorem carets_stay {c : Int} : ∀ {a : List S41} {l : List S48} {g : Int}, StandsL l a → (∀ o ∈ a, Good o) → Behind l c g → Behind (foldE l a) c (carets g a) ∧ ∀ k, k < a.length → (caretE (carets g (a.take k)) (a.getD k z41)).2 = 0 ∧ (caretE (carets g (a.take k)) (a.getD k z41)).1 = carets g (a.take (k + 1))
 | [], _, _, _, _, h => ⟨h, fun k hk => by simp at hk⟩
 | o :: t, l, g, hS, hG, h => by
  obtain ⟨h1, h2⟩ := caret_step hS.1 (hG o (by simp)) hS.2.1 h
  obtain ⟨h3, h4⟩ := carets_stay (a := t) hS.2.2 (fun x hx => hG x (by simp [hx])) h2
  refine ⟨h3, fun k hk => ?_⟩
  cases k with
  | zero => exact ⟨h1, rfl⟩
  | succ k => exact h4 k (by simpa using hk)
end Go.Proofs.YtloccjkcmlkifaaDoor
end

section
/- A step of kind 7 (Caret) is answered as the document says; a step of any kind. -/
namespace Go.Proofs.YtloccjkcmlkifaaDoor
open Go.RowKit Go.Proofs.YtloccjkcmlkifaaDoor.PAll Go.Proofs.YtloccjkcmlkifaaDoorW.PrintWords Go.Proofs.YtloccjkcmlkifaaDoorW.PrintLast

theorem caret_any (n : Int) (o : S41) (v : Value) (w : World) (hG : GW w) (h : OpC w v o) (hf : fineOp o) : Calls Tryd.prog 21 #[.int .i64 n, .agg (opA o v)] w fun e w' => e = .returned (.tuple #[.int .i64 (caretE n o).1, .int .i64 (caretE n o).2]) ∧ Below w.heap.size w w' := by
 obtain ⟨A, c, rfl, h1, h2⟩ := h
 obtain ⟨K, hK⟩ := caret_is n o hf.1 (by have := hf.2; omega)
 exact xform_Caret.calls K n _ _ _ _ _ A c o.f3 _ _ _ _ _ w h2 h1 hG (hK K (Nat.le_refl _))
end Go.Proofs.YtloccjkcmlkifaaDoor
end

section
/- An insert as the statements make it. -/
namespace Go.Proofs.YtloccjkcmlkifaaDoor
open Go.RowKit Go.Proofs.YtloccjkcmlkifaaDoor.PAll Go.Proofs.YtloccjkcmlkifaaDoorW.PrintWords Go.Proofs.YtloccjkcmlkifaaDoorW.PrintLast

abbrev insO (c n at_ : Int) (t : ByteArray) : S41 := ⟨⟨⟨c, n⟩, 1⟩, at_, t, [], ⟨0, 0⟩, false⟩
theorem opC_nil (w : World) (o : S41) (h : o.f3 = []) : OpC w (.slice none 0 0) o := by
 have e : k94.C w none 0 [] := by
  have := (opR_nil w 0).C
  obtain ⟨A, c, e, _, h⟩ := this
  injection e with e1 _ _
  rw [← e1] at h; exact h
 exact ⟨none, 0, by rw [h]; rfl, by rw [h]; exact Nat.le_refl _, by rw [h]; exact e⟩
theorem ins_any (c n at_ : Int) (t : ByteArray) (w : World) : Calls Tryd.prog 25 #[.int .i64 c, .int .i64 n, .int .i64 at_, .string t] w fun e w' => e = .returned (.agg (opA (insO c n at_ t) (.slice none 0 0))) ∧ Below w.heap.size w w' := by
 have S := Aside0.mk (St.init w (F := fun _ => True) (fun _ _ => trivial))
 go_enter Tryd.func25, Tryd.ntmps25
 go_wp2_with (first | ((with_reducible refine gate_new rfl ?_); refine ev_new S 41 zA ?_; clear S; intro _ _ S) | ((with_reducible refine gate_st rfl ?_); refine ev_store S ?_; clear S; intro _ S))
 exact bodyPost_ret (results_cell_row rfl _ _ _ 41 _ (0, 0) _ rfl (S.out.at_ 0 rfl) Tryd.underlying41 rfl (by kernel_rfl)) rfl ⟨rfl, S.out.below⟩
end Go.Proofs.YtloccjkcmlkifaaDoor
end

section
/- XformCaretStays: the walk. -/
namespace Go.Proofs.YtloccjkcmlkifaaDoor
open Go.RowKit Go.Proofs.YtloccjkcmlkifaaDoor.PAll Go.Proofs.YtloccjkcmlkifaaDoorW.PrintWords Go.Proofs.YtloccjkcmlkifaaDoorW.PrintLast

def CellsC (w : World) (v : Value) (l : List S48) : Prop := ∃ A c, v = .slice A l.length c ∧ l.length ≤ c ∧ k48.C w A l.length l
theorem CellsC.below {w w' : World} {v : Value} {l : List S48} (h : CellsC w v l) (hb : Below w.heap.size w w') : CellsC w' v l := by
 obtain ⟨A, c, e, h1, h2⟩ := h
 exact ⟨A, c, e, h1, Kd.C_below h2 hb⟩
theorem row_any (n : Nat) (w : World) (hn : n ≤ 1000) : Calls Tryd.prog 19 #[.int .i64 n] w fun e w' => ∃ v, e = .returned v ∧ Kd.R k48 48 w' w.heap.size (fun _ => True) v (rowE n) ∧ Below w.heap.size w w' :=
 redraftlaw05_row.calls (n + 1) n (rowE n) w (row_is n (by omega))
theorem fold_any {b : Nat} {ok : Nat → Prop} (l : List S48) (run : List S41) (v u : Value) (w : World) (hv : Kd.R k48 48 w b ok v l) (hu : RunC w u run) (hr : run.length ≤ 1048576) (h : StandsL l run) :
 Calls Tryd.prog 24 #[v, u] w fun e w' => ∃ r, e = .returned (.tuple #[r, .bool true]) ∧ CellsC w' r (foldE l run) ∧ Below w.heap.size w w' := by
 obtain ⟨K, hK⟩ := fold_is l run hr h
 obtain ⟨A, c, rfl⟩ := Kd.R_slice hv
 obtain ⟨B, d, rfl, h1, h2⟩ := hu
 refine (redraftlaw05_fold.calls K ok A c l B d run (foldE l run) true w (Kd.R_V hv) h2 h1 hK).mono ?_
 rintro e w' ⟨r, he, hV, hb⟩
 obtain ⟨C, f, rfl⟩ := Kd.V_slice hV
 obtain ⟨_, h3, h4⟩ := Kd.V_reads' hV
 exact ⟨_, he, ⟨C, f, rfl, h3, h4⟩, hb⟩
theorem row_at {w : World} {v : Value} {l : List S48} (h : CellsC w v l) (i : Nat) (x : S48) (hx : l[i]? = some x) : ∃ ad c, v = .slice (some ad) l.length c ∧ (∀ W, Below w.heap.size w W → atL W (ad.add (i * 4)) 0 [.int .i64 x.f0.f0, .int .i64 x.f0.f1]) ∧ w.cell? ⟨(ad.add (i * 4)).block, (ad.add (i * 4)).off + 2, none⟩ = some (.int .i64 x.f1) := by
 obtain ⟨A', c', rfl, _, hC⟩ := h
 have hi := (List.getElem?_eq_some_iff.1 hx).1
 obtain ⟨ad, e, q0, q1, q2, _⟩ := at_T48 hC (i : Int) (by omega) (by omega)
 have er : rd_T48 l (i : Int) = x := by unfold rd_T48; rw [Int.toNat_natCast, List.getD_eq_getElem?_getD, hx]; rfl
 rw [er, Int.toNat_natCast] at q0 q1 q2
 subst e
 refine ⟨ad, c', rfl, fun W hb => atL_mk fun j v hj => ?_, q2⟩
 match j, hj with
 | 0, hj =>
  obtain rfl := Option.some.inj hj
  exact pw_cell_below hb q0
 | 1, hj =>
  obtain rfl := Option.some.inj hj
  exact pw_cell_below hb q1
theorem RunC.elem {w : World} {A : Option Addr} {n c : Nat} {l : List S41} (h : RunC w (.slice A n c) l) (i : Nat) (hi : i < l.length) :
 ∃ ad A5 c5, A = some ad ∧ (∀ W, Below w.heap.size w W → atL W (ad.add (i * 9)) 0 (opA (l.getD i z41) (.slice A5 (l.getD i z41).f3.length c5)).toList) ∧ OpC w (.slice A5 (l.getD i z41).f3.length c5) (l.getD i z41) := by
 obtain ⟨A', c', e, _, hC⟩ := h
 injection e with e1 e2 e3
 subst e1
 exact elem_C hC i hi
theorem SpecsC.below {w w' : World} {v : Value} {n : Nat} (h : SpecsC w v n) (hb : Below w.heap.size w w') : SpecsC w' v n := by
 obtain ⟨A, c, e, h1, h2⟩ := h
 refine ⟨A, c, e, h1, fun i hi => ?_⟩
 obtain ⟨ad, kd, at_, m, P, cp, l, on, e1, h3, h4, h5⟩ := h2 i hi
 exact ⟨ad, kd, at_, m, P, cp, l, on, e1, fun W hW => h3 W (below_then hb hb.size hW), h4, Kd.C_below h5 hb⟩
theorem eqID (w : World) (a b a' b' : Int) : (Op.equalIn 10000 35 (.agg #[.int .i64 a, .int .i64 b]) (.agg #[.int .i64 a', .int .i64 b'])).run Tryd.prog w = .ok (a == a' && b == b') w :=
 run_equalIn_pair w 9998 35 3 .i64 a b a' b' Tryd.underlying35 Tryd.underlying3 (by kernel_rfl)
attribute [local go_sem] eqID
theorem caret3_any (w : World) (hG : GW w) : Calls Tryd.prog 21 #[.int .i64 3, .agg (opA (insO 1 1 2 ⟨#[120]⟩) (.slice none 0 0))] w fun e w' => e = .returned (.tuple #[.int .i64 4, .int .i64 0]) ∧ Below w.heap.size w w' := by
 have h := caret_any 3 (insO 1 1 2 ⟨#[120]⟩) _ w hG (opC_nil w _ rfl) ⟨by decide, by decide⟩
 have e : caretE 3 (insO 1 1 2 ⟨#[120]⟩) = (4, 0) := by decide +kernel
 rw [e] at h
 exact h
set_option maxRecDepth 100000 in
set_option maxHeartbeats 4000000 in
theorem XformCaretStays_walk (len : Int) (A : Option Addr) (sn sc : Nat) (v2 : Value) (i j : Int) (e : Bool) (v3 : Value) (w : World) (hG : GW w) (hT : GT w) (hs : SpecsC w (.slice A sn sc) sn) (hsn : sn ≤ 281474976710656) : Calls Tryd.prog 3 #[.agg #[.int .i64 len, .slice A sn sc, v2, .int .i64 i, .int .i64 j, .bool e, v3]] w (Yes w) := by
 obtain ⟨n', h1, b1, b2, _⟩ := within_is len 30 (by omega)
 replace b2 := b2 (by omega)
 obtain ⟨n, rfl⟩ : ∃ n : Nat, n' = (n : Int) := ⟨n'.toNat, by omega⟩
 obtain ⟨c, h2, d1, d2, _⟩ := within_is i ((n : Int) + 1) (by omega)
 replace d2 := d2 (by omega)
 have H1 := Aside0.mk h1; have H2 := Aside0.mk h2
 have HN := Aside0.mk (show n ≤ 1000 by omega); have HN9 := Aside0.mk (show n ≤ 900 by omega)
 have HB0 := Aside0.mk (behind_row n c d1 (by omega))
 have S := Aside0.mk (St.init w (F := fun _ => True) (fun _ _ => trivial))
 have HG := Aside0.mk hG; have HT := Aside0.mk hT; have HSN := Aside0.mk hsn
 have HSP : Aside0 (∀ W, Below w.heap.size w W → SpecsC W (.slice A sn sc) sn) := ⟨fun W hW => hs.below hW⟩
 have hq : IntKind.i64.wrap ((n : Int) + 1) = (n : Int) + 1 := IntWalk.i64_in _ (by omega)
 have HN30 := Aside0.mk (show n < 30 ∧ 0 ≤ c ∧ c ≤ (n : Int) by omega)
 clear h1 h2 hG hT hs hsn b1 b2 d1 d2
 go_enter Tryd.func3, Tryd.ntmps3
 go_wp2_with (first | ((with_reducible refine gate_box rfl ?_); refine ev_box S ?_; clear S; intro _ _ S) | ((with_reducible refine gate_load rfl ?_); first | refine ev_load S ?_ | refine ev_fld S ?_) | (go_at_call 18; (with_reducible refine (redraftlaw05_within.calls len 30 _ _ H1.out).mono ?_); rintro e_ w7 ⟨rfl, hb⟩; replace S := Aside0.mk (S.out.step hb.below); clear hb) | (go_at_call 18; (with_reducible refine (redraftlaw05_within.calls i ((n : Int) + 1) _ _ H2.out).mono ?_); rintro e_ w7 ⟨rfl, hb⟩; replace S := Aside0.mk (S.out.step hb.below); clear hb) | (go_at_call 19; (with_reducible refine (row_any n _ HN.out).mono ?_); rintro e_ w7 ⟨vr, rfl, hR, hb⟩; obtain ⟨Ar, cr, rfl⟩ := Kd.R_slice hR; replace S := Aside0.mk (S.out.addR hb hR); clear hb hR) | (go_at_call 20; (with_reducible refine (run_any 1 n sn _ _ (GT.below HT.out S.out.below) (HSP.out _ S.out.below) HN9.out HSN.out).mono ?_); rintro e_ w7 ⟨vu, a, n1, rfl, hM, hL, hR, hb⟩; obtain ⟨Au, cu, rfl⟩ := Kd.S_slice hR; replace S := Aside0.mk (S.out.addS hb hR); have HM := Aside0.mk hM; have HL := Aside0.mk hL; have HRW := Aside0.mk S.out.now.1.2; have HRU := Aside0.mk (OwnRun.C S.out.now.2); have HBW := Aside0.mk S.out.below; replace HG := Aside0.mk (GW.below HG.out S.out.below); replace S := Aside0.mk (St.init w7 (F := fun _ => True) (fun _ _ => trivial)); clear hb hR hM hL))
 have hb1 := HM.out.bound
 have hst := HM.out.stands (l := rowE n) (by unfold rowE; simp) (by have := HN30.out; have := HL.out; omega)
 have hgd := HM.out.good (by omega) (by have := HN30.out; have := HL.out; omega) (by have := HL.out; omega)
 have HST := Aside0.mk hst.1; have HLE := Aside0.mk hst.2; have HGD := Aside0.mk hgd
 have hcs := carets_stay hst.1 hgd HB0.out
 have HBE := Aside0.mk hcs.1; have HCS := Aside0.mk hcs.2
 have HNB := Aside0.mk (show n1 ≤ 1000 by have := HN30.out; have := HL.out; omega)
 obtain ⟨N, hN⟩ : ∃ N, N = a.length := ⟨_, rfl⟩
 rw [← hN] at HCS HL
 rw [← hN]
 have HNN := Aside0.mk hN
 clear hb1 hst hgd hcs hN
 go_loopw [7, 8] (fun g' i' wr => ∃ k : Nat, k ≤ N ∧ i' = .int .i64 (k : Int) ∧ g' = .int .i64 (carets c (a.take k)) ∧ Aside0 (St _ wr [] (fun _ => True))) (fun _ i' _ => N - (intOf i').toNat)
 case atStart => exact ⟨0, Nat.zero_le _, rfl, rfl, S⟩
 case round =>
  obtain ⟨k, hk, rfl, rfl, HA⟩ := hrel
  have S := HA
  clear HA
  by_cases hlt : k < N
  · obtain ⟨ad, A5, c5, rfl, hat, hop⟩ := HRU.out.elem k (by rw [← HNN.out]; exact hlt)
    obtain ⟨hc1, hc2⟩ := HCS.out k hlt
    obtain ⟨o, ho⟩ : ∃ x, x = a.getD k z41 := ⟨_, rfl⟩
    have hgo : Good o := HGD.out o (by rw [ho, List.getD_eq_getElem?_getD, List.getElem?_eq_getElem (by rw [← HNN.out]; exact hlt)]; exact List.getElem_mem _)
    rw [← ho] at hat hop hc1 hc2
    have HAT := Aside0.mk hat; have HO := Aside0.mk hop; have HGO := Aside0.mk hgo
    have HC2 := Aside0.mk hc2
    have HK := Aside0.mk (show k < 1048576 ∧ k < N by have := HL.out; omega)
    have e0 : ((caretE (carets c (a.take k)) o).2 != 0) = false := bne_eq_false_iff_eq.mpr hc1
    clear hat hop hgo hc1 hc2 ho
    go_wp2_with (first | ((with_reducible refine gate_load rfl ?_); refine ev_ext (opA o (.slice A5 o.f3.length c5)) (HAT.out _ S.out.below) ?_) | (go_at_call 22; (with_reducible refine (rcopy_any o _ _ (HO.out.below S.out.below) HGO.out.fine).mono ?_); rintro e_ w7 ⟨v, rfl, hR, hb⟩; obtain ⟨Av, cv, rfl⟩ := hR.slice; replace S := Aside0.mk (S.out.addOp hb hR); clear hb hR) | (go_at_call 21; (with_reducible refine (caret_any _ o _ _ (GW.below HG.out S.out.below) S.out.now.2.C HGO.out.fine).mono ?_); rintro e_ w7 ⟨rfl, hb⟩; replace S := Aside0.mk (S.out.step hb); clear hb) | (go_at_call 23; (with_reducible refine (num_any _ _).mono ?_); rintro e_ w7 ⟨rfl, hb⟩; replace S := Aside0.mk (S.out.step hb); clear hb))
    go_roundw
    case rel => exact ⟨k + 1, by omega, cnt_step1 HK.out.1, by rw [HC2.out], S.out.drop (List.nil_sublist _) |>.weak (fun _ _ => trivial) |> Aside0.mk⟩
    case measure => exact cnt_less1 HK.out.1 HK.out.2
  · obtain rfl : k = N := by omega
    have et : a.take k = a := List.take_of_length_le (by rw [HNN.out]; exact Nat.le_refl _)
    rw [et]
    have hBE := HBE.out
    have HAL := Aside0.mk (show a.length ≤ 1048576 by rw [← HNN.out]; have := HL.out; omega)
    obtain ⟨G, hG⟩ : ∃ G, G = carets c a := ⟨_, rfl⟩
    rw [← hG] at hBE ⊢
    have hru := HRU.out
    rw [← HNN.out] at hru
    replace HRU := Aside0.mk hru
    clear hG et hk hru
    rcases hBE with ⟨c0, g0⟩ | ⟨c0, g0, g1, x, hx, x0, x1, x2⟩
    · have ec : (c == 0) = true := beq_iff_eq.mpr c0
      have eg : (G == 0) = true := beq_iff_eq.mpr g0
      clear c0 g0
      go_wp2_with (first | (go_at_call 24; (with_reducible refine (fold_any (rowE n) a _ _ _ (Kd.R_below HRW.out S.out.below) (HRU.out.below S.out.below) HAL.out HST.out).mono ?_); rintro e_ w7 ⟨r, rfl, hR, hb⟩; replace S := Aside0.mk (S.out.step hb); clear hb hR) | (go_at_call 25; (with_reducible refine (ins_any _ _ _ _ _).mono ?_); rintro e_ w7 ⟨rfl, hb⟩; replace S := Aside0.mk (S.out.step hb); clear hb) | (go_at_call 21; (with_reducible refine (caret3_any _ (GW.below HG.out S.out.below)).mono ?_); rintro e_ w7 ⟨rfl, hb⟩; replace S := Aside0.mk (S.out.step hb); clear hb) | (go_at_call 23; (with_reducible refine (num_any _ _).mono ?_); rintro e_ w7 ⟨rfl, hb⟩; replace S := Aside0.mk (S.out.step hb); clear hb))
      go_ret
      exact ⟨by simp [*], below_then HBW.out HBW.out.size S.out.below⟩
    · obtain ⟨q, hqq⟩ : ∃ q : Nat, (q : Int) = G - 1 := ⟨(G - 1).toNat, by omega⟩
      rw [show (G - 1).toNat = q by omega] at hx
      have HX := Aside0.mk hx
      have HX0 := Aside0.mk x0; have HX1 := Aside0.mk x1; have HX2 := Aside0.mk x2
      have ec : (c == 0) = false := beq_eq_false_iff_ne.mpr (by omega)
      have eg : decide (0 < G) = true := decide_eq_true g0
      have el : decide (G ≤ ((foldE (rowE n) a).length : Int)) = true := decide_eq_true g1
      have hlt2 : q < (foldE (rowE n) a).length := (List.getElem?_eq_some_iff.1 hx).1
      have w1 : IntKind.i64.wrap (G - 1) = (q : Int) := by rw [← hqq]; exact IntWalk.i64_in _ (by have := HLE.out; have := HNB.out; omega)
      have w2 : IntKind.i64.wrap (c - 1) = c - 1 := IntWalk.i64_in _ (by have := HN30.out; omega)
      clear c0 g0 g1 hx x0 x1 x2 hqq
      go_wp2_with (first | (go_at_call 24; (with_reducible refine (fold_any (rowE n) a _ _ _ (Kd.R_below HRW.out S.out.below) (HRU.out.below S.out.below) HAL.out HST.out).mono ?_); rintro e_ w7 ⟨r, rfl, hR, hb⟩; obtain ⟨ad, cm, rfl, hat, hk⟩ := row_at hR q x HX.out; rw [HX0.out, HX1.out] at hat; rw [HX2.out] at hk; have HID := Aside0.mk hat; have HKK := Aside0.mk hk; replace S := Aside0.mk (S.out.step hb); replace HBW := Aside0.mk (below_then HBW.out HBW.out.size S.out.below); replace HG := Aside0.mk (GW.below HG.out S.out.below); replace S := Aside0.mk (St.init w7 (F := fun _ => True) (fun _ _ => trivial)); clear hb hR hat hk) | (go_at_call 25; (with_reducible refine (ins_any _ _ _ _ _).mono ?_); rintro e_ w7 ⟨rfl, hb⟩; replace S := Aside0.mk (S.out.step hb); clear hb) | (go_at_call 21; (with_reducible refine (caret3_any _ (GW.below HG.out S.out.below)).mono ?_); rintro e_ w7 ⟨rfl, hb⟩; replace S := Aside0.mk (S.out.step hb); clear hb) | (go_at_call 23; (with_reducible refine (num_any _ _).mono ?_); rintro e_ w7 ⟨rfl, hb⟩; replace S := Aside0.mk (S.out.step hb); clear hb) | ((with_reducible refine gate_load rfl ?_); refine ev_ext #[.int .i64 0, .int .i64 0] (HID.out _ S.out.below) ?_ (hu := Tryd.underlying35)) | ((with_reducible refine gate_load rfl ?_); refine ev_old S HKK.out ?_))
      go_ret
      exact ⟨by simp [*], below_then HBW.out HBW.out.size S.out.below⟩
theorem XformCaretStays_any (len : Int) (A : Option Addr) (n c : Nat) (B : Option Addr) (m d : Nat) (i j : Int) (e : Bool) (v : Value) (w : World) (hG : GW w) (hT : GT w) (h1 : SpecsC w (.slice A n c) n) (h2 : n ≤ 281474976710656) (_ : SpecsC w (.slice B m d) m) (_ : m ≤ 281474976710656) (_ : (Lit.int .i64 i).wf = true) (_ : (Lit.int .i64 j).wf = true) :
 Calls Tryd.prog 3 #[.agg #[.int .i64 len, .slice A n c, .slice B m d, .int .i64 i, .int .i64 j, .bool e, v]] w (Yes w) := XformCaretStays_walk len A n c (.slice B m d) i j e v w hG hT h1 h2
end Go.Proofs.YtloccjkcmlkifaaDoor
end
