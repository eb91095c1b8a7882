/- MsgNames_card, part 32. -/
import Derived.Test.YtjnicgfkogfifaaDoorQNa31
import Derived.Test.YtjnicgfkogfifaaDoorQNa18
import Derived.Test.YtjnicgfkogfifaaDoorCards
import Derived.Test.YtjnicgfkogfifaaDoorTie
import Derived.LaidMore
import Derived.Deep.DeepWitnessRowRef
import Derived.Test.YtjnicgfkogfifaaDoorQNa26
import Derived.Test.YtjnicgfkogfifaaDoorQNa30
import Derived.Test.YtjnicgfkogfifaaDoorQNa25

section
/- The reader of msg: a message, by its contract. (Printed by tools/gen_mmsg.py.) -/
namespace Go.Proofs.YtjnicgfkogfifaaDoor
open Go.RowKit Go.Proofs.YtjnicgfkogfifaaDoor.PAll Go.Proofs.YtjnicgfkogfifaaDoorW.PrintWords Go.Proofs.YtjnicgfkogfifaaDoorW.PrintLast

abbrev fnV (n : Nat) : Value := .func (.func n) #[] #[]
def formsL : List Value := [.bool false, .bool false, .int .i64 0, .nilFunc, .nilFunc, .bool true, .bool false, .int .i64 0, fnV 133, fnV 134, .bool true, .bool true, .int .i64 0, fnV 135, fnV 136, .bool false, .bool false, .int .i64 1, fnV 137, fnV 138, .bool false, .bool true, .int .i64 1, fnV 139, fnV 136]
def GF (w : World) : Prop := ∀ j v, formsL[j]? = some v → w.cell? ⟨0, j, none⟩ = some v
theorem GF.at_ {w : World} (h : GF w) (j : Nat) {v : Value} (e : formsL[j]? = some v) : w.cell? ⟨0, j, none⟩ = some v := h j v e
theorem GF.lt {w : World} (h : GF w) : 0 < w.heap.size := World.block_lt_of_cell? w ⟨0, 0, none⟩ (h 0 _ rfl)
theorem foot_gf {w : World} (h : GF w) : Foot GF w (fun _ => True) := fun W' hW j v e => by
 have e0 := hW 0 trivial h.lt
 rw [World.cell?_of_block (w := w) (a := ⟨0, j, none⟩) e0]
 exact h j v e
theorem GF.below {w w' : World} (h : GF w) (hb : Below w.heap.size w w') : GF w' := foot_gf h w' fun k _ hk => hb.block k hk
section
variable {P : Program} {ops : Array Oper} {rest : List Oper} {o : Oper} {a : Act} {Q : Exit → Act → World → Prop} {W : World}
theorem ev_at {p : Addr} {v : Value} (hc : W.cell? p = some v) {N : Tmp} {ty : TypeId} {x : Operand}
 (h : wpList P ops Q rest (a.put (some N) v) W)
 (ho : o.op = .load ty x := by rfl) (hx : a.eval x = .pointer (some p) := by rfl) (hd : o.dst = some N := by rfl)
 (hw : Region.wanted o (yielded ops a.tmps) = true := by first | exact wanted_plain rfl | (refine wanted_on rfl ?_; first | (simp [yielded]; done) | rfl))
 (hrun : W.cell? p = some v → (execOp a.eval o).run P W = .ok (.value v) W := by intro hc_; first | (go_simp; done) | (go_simp; rfl)) : wpList P ops Q (o :: rest) a W :=
 have _ := ho; have _ := hx
 ev_run hw (hrun hc) (by rw [hd]; exact h)
end
theorem readNothing_any (v u : Value) (w : World) : Calls Tryd.prog 133 #[v, u] w fun e w' => e = .returned (.tuple #[]) ∧ w' = w := by
 go_enter Tryd.func133, Tryd.ntmps133
 go_wp2
 exact ⟨rfl, .tuple #[], by simp [results, Tryd.results133], rfl, rfl⟩
abbrev zM : Array Value := mcells 0 0 0 0 z35
def GotN (w0 : World) (bs : List Bx) (F : World → Prop) (g : Nat) (A : Option Addr) (n cap : Nat) (r : Rd MM) (e : Ending) (w' : World) : Prop :=
 match r with
 | .ok m j => ∃ v, e = .returned (.agg (mbA m.b.code m.client m.rev m.b v)) ∧ St w0 w' ((g, 93, rdA A n cap j) :: bs) (fun W => F W ∧ Kd.R k54 54 W w0.heap.size (fun _ => True) v (rowOf m.b))
 | .bad p er => e = flt p er ∧ ∃ cs, St w0 w' ((g, 93, cs) :: bs) F
theorem gotN_bad {w0 w : World} {bs : List Bx} {F G : World → Prop} {g : Nat} {A : Option Addr} {n cap : Nat} {p e : Int} {cs : Array Value} {x y : Bx} {r : Rd MM} (h : r = .bad p e) (S : St w0 w ((g, 93, cs) :: x :: y :: bs) G) (hG : ∀ W, G W → F W) : GotN w0 bs F g A n cap r (flt p e) w := by rw [h]; exact ⟨rfl, cs, (S.cut3).weak hG⟩
set_option maxRecDepth 100000 in
set_option maxHeartbeats 8000000 in
theorem message_any (w0 w : World) (bs : List Bx) (F : World → Prop) (g : Nat) (A : Option Addr) (cap : Nat) (xs : List UInt8) (S : St w0 w ((g, 93, rdA A xs.length cap 0) :: bs) F) (hF : ∀ W, F W → BytesAt W A xs) (hG : ∀ W, F W → GW W) (hT : ∀ W, F W → GF W) (hl : xs.length ≤ 140737488351232) (hcap : xs.length ≤ cap) (hcap2 : cap ≤ 9223372036854775807) (hbs : ∀ b ∈ bs, b.2.1 ≠ 54) :
 Calls Tryd.prog 37 #[.pointer (some ⟨g, 0, none⟩)] w (GotN w0 bs F g A xs.length cap (msgR chkL xs)) := by
 have HF := Aside0.mk hF
 have HG := Aside0.mk hG
 have HT := Aside0.mk hT
 have HB2 := Aside0.mk (show ∀ gr : Nat, ∀ b ∈ ((gr, 37, zM) :: bs : List Bx), b.2.1 ≠ 54 from fun gr b hb h54 => by
  rcases List.mem_cons.1 hb with rfl | hb
  · exact absurd (show (37 : Nat) = 54 from h54) (by decide)
  · exact hbs b hb h54)
 replace S := Aside0.mk S
 have hi : 0 ≤ xs.length := Nat.zero_le _
 clear hF hG hT hbs
 rcases hr1 : betw 1 4 100 xs 0 with ⟨k, i1⟩ | ⟨p, q⟩
 · have h1 := (betw_ok hr1).2.2.2
   have hk := (betw_ok hr1).1
   have HR1 := Aside0.mk hr1
   rcases hr2 : betw 1 8 104 xs i1 with ⟨c, i2⟩ | ⟨p, q⟩
   · have h2 := (betw_ok hr2).2.2.2
     have HR2 := Aside0.mk hr2
     have HU0 : Aside0 (msgR chkL xs = (betw (least k) 8192 104 xs i2).bind fun r i3 => (mbR chkL k c xs i3).bind fun b j => (endR xs j).bind fun _ j => .ok ⟨c, r, b⟩ j) := ⟨by unfold msgR; rw [hr1, Rd.bind_ok, hr2, Rd.bind_ok]⟩
     clear hr1 hr2
     have hk4 : k = 1 ∨ k = 2 ∨ k = 3 ∨ k = 4 := by omega
     clear hk
     rcases hk4 with rfl | rfl | rfl | rfl
     · -- code 1
       have hu := HU0.out
       rw [show least 1 = 0 from rfl] at hu
       rcases hr3 : betw 0 8192 104 xs i2 with ⟨r, i3⟩ | ⟨p, q⟩
       · rw [hr3, Rd.bind_ok] at hu
         have h3 := (betw_ok hr3).2.2.2
         have HR3 := Aside0.mk hr3
         rcases hr4 : mbR chkL 1 c xs i3 with ⟨b, j⟩ | ⟨p, q⟩
         · rw [hr4, Rd.bind_ok] at hu
           have HR4 := Aside0.mk hr4
           obtain ⟨rfl, rfl⟩ : b = .hello ∧ i3 = j := by rw [mb_1] at hr4; cases hr4; exact ⟨rfl, rfl⟩
           rcases hr5 : endR xs i3 with ⟨_, j2⟩ | ⟨p, q⟩
           · rw [hr5] at hu
             have HW := Aside0.mk hu
             have HE := Aside0.mk hr5
             clear hu hr3 hr4 hr5
             go_enter Tryd.func37, Tryd.ntmps37; go_upto_region 1 with (first | ((with_reducible refine gate_new rfl ?_); refine ev_new S 37 zM ?_; clear S; intro gr _ S; replace S := Aside0.mk S.out.sw)); go_upto_region 2 with (first | ((with_reducible refine gate_new rfl ?_); refine ev_new S 37 zM ?_; clear S; intro gm _ S; replace S := Aside0.mk S.out.sw))
             go_upto_region 5 with (first | ((with_reducible refine gate_load rfl ?_); refine ev_fld S ?_) | (go_at_call 49; (with_reducible refine (between_any _ _ _ _ _ _ _ _ xs 1 4 _ _ _ S.out HF.out hi hl (by omega) (by omega)).mono ?_); rw [HR1.out]; rintro e_ w7 ⟨rfl, S'⟩; replace S := Aside0.mk S'; clear S') | (go_at_call 49; (with_reducible refine (between_any _ _ _ _ _ _ _ _ xs 1 8 _ _ _ S.out HF.out h1 hl (by omega) (by omega)).mono ?_); rw [HR2.out]; rintro e_ w7 ⟨rfl, S'⟩; replace S := Aside0.mk S'; clear S') | (go_at_call 49; (with_reducible refine (between_any _ _ _ _ _ _ _ _ xs 0 8192 _ _ _ S.out HF.out h2 hl (by omega) (by omega)).mono ?_); rw [HR3.out]; rintro e_ w7 ⟨rfl, S'⟩; replace S := Aside0.mk S'; clear S') | ((with_reducible refine gate_load rfl ?_); refine ev_at ((HT.out _ S.out.now).at_ 7 rfl) ?_) | ((with_reducible refine gate_st rfl ?_); refine ev_set S ?_; clear S; intro _ S))
             replace S := Aside0.mk (show St w0 _ ((g, 93, rdA A xs.length cap i3) :: (gm, 37, mcells 1 c r 0 z35) :: (gr, 37, zM) :: bs) F from S.out)
             go_wp2_with (first | ((with_reducible refine gate_load rfl ?_); refine ev_fld S ?_) | ((with_reducible refine gate_load rfl ?_); refine ev_at ((HT.out _ S.out.now).at_ 8 rfl) ?_) | (go_at_call 133; (with_reducible refine (readNothing_any _ _ _).mono ?_); rintro e_ w7 ⟨rfl, rfl⟩; replace S := Aside0.mk S.out.addNil) | (go_at_call 50; (with_reducible refine (end_any _ _ _ _ _ _ _ _ xs S.out).mono ?_); rw [HE.out]; rintro e_ w7 ⟨rfl, S'⟩; replace S := Aside0.mk S'; clear S') | ((with_reducible refine gate_load rfl ?_); refine ev_load S ?_) | ((with_reducible refine gate_st rfl ?_); refine ev_store S ?_; clear S; intro _ S))
             refine bodyPost_ret (results_c1 rfl _ _ _ 37 _ (0, 0) _ rfl (S.out.at_ 2 rfl) Tryd.underlying37 rfl (by kernel_rfl)) rfl ?_
             rw [HW.out]
             exact ⟨_, rfl, S.out.cut3⟩
           · rw [hr5] at hu
             have HW := Aside0.mk hu
             have HE := Aside0.mk hr5
             clear hu hr3 hr4 hr5
             go_enter Tryd.func37, Tryd.ntmps37; go_upto_region 1 with (first | ((with_reducible refine gate_new rfl ?_); refine ev_new S 37 zM ?_; clear S; intro gr _ S; replace S := Aside0.mk S.out.sw)); go_upto_region 2 with (first | ((with_reducible refine gate_new rfl ?_); refine ev_new S 37 zM ?_; clear S; intro gm _ S; replace S := Aside0.mk S.out.sw))
             go_upto_region 5 with (first | ((with_reducible refine gate_load rfl ?_); refine ev_fld S ?_) | (go_at_call 49; (with_reducible refine (between_any _ _ _ _ _ _ _ _ xs 1 4 _ _ _ S.out HF.out hi hl (by omega) (by omega)).mono ?_); rw [HR1.out]; rintro e_ w7 ⟨rfl, S'⟩; replace S := Aside0.mk S'; clear S') | (go_at_call 49; (with_reducible refine (between_any _ _ _ _ _ _ _ _ xs 1 8 _ _ _ S.out HF.out h1 hl (by omega) (by omega)).mono ?_); rw [HR2.out]; rintro e_ w7 ⟨rfl, S'⟩; replace S := Aside0.mk S'; clear S') | (go_at_call 49; (with_reducible refine (between_any _ _ _ _ _ _ _ _ xs 0 8192 _ _ _ S.out HF.out h2 hl (by omega) (by omega)).mono ?_); rw [HR3.out]; rintro e_ w7 ⟨rfl, S'⟩; replace S := Aside0.mk S'; clear S') | ((with_reducible refine gate_load rfl ?_); refine ev_at ((HT.out _ S.out.now).at_ 7 rfl) ?_) | ((with_reducible refine gate_st rfl ?_); refine ev_set S ?_; clear S; intro _ S))
             replace S := Aside0.mk (show St w0 _ ((g, 93, rdA A xs.length cap i3) :: (gm, 37, mcells 1 c r 0 z35) :: (gr, 37, zM) :: bs) F from S.out)
             go_wp2_with (first | ((with_reducible refine gate_load rfl ?_); refine ev_fld S ?_) | ((with_reducible refine gate_load rfl ?_); refine ev_at ((HT.out _ S.out.now).at_ 8 rfl) ?_) | (go_at_call 133; (with_reducible refine (readNothing_any _ _ _).mono ?_); rintro e_ w7 ⟨rfl, rfl⟩; replace S := Aside0.mk S.out.addNil) | (go_at_call 50; (with_reducible refine (end_any _ _ _ _ _ _ _ _ xs S.out).mono ?_); rw [HE.out]; rintro e_ w7 ⟨rfl, cs_, S'⟩; replace S := Aside0.mk S'; clear S'))
             exact ⟨rfl, gotN_bad HW.out S.out (fun _ h => h.1)⟩
         · rw [hr4] at hu
           have HW := Aside0.mk hu
           have HR4 := Aside0.mk hr4
           clear hu hr3 hr4
           rw [mb_1] at HR4; exact absurd HR4.out (by simp)
       · rw [hr3] at hu
         have HW := Aside0.mk hu
         have HR3 := Aside0.mk hr3
         clear hu hr3
         go_enter Tryd.func37, Tryd.ntmps37; go_upto_region 1 with (first | ((with_reducible refine gate_new rfl ?_); refine ev_new S 37 zM ?_; clear S; intro gr _ S; replace S := Aside0.mk S.out.sw)); go_upto_region 2 with (first | ((with_reducible refine gate_new rfl ?_); refine ev_new S 37 zM ?_; clear S; intro gm _ S; replace S := Aside0.mk S.out.sw))
         go_wp2_with (first | ((with_reducible refine gate_load rfl ?_); refine ev_fld S ?_) | (go_at_call 49; (with_reducible refine (between_any _ _ _ _ _ _ _ _ xs 1 4 _ _ _ S.out HF.out hi hl (by omega) (by omega)).mono ?_); rw [HR1.out]; rintro e_ w7 ⟨rfl, S'⟩; replace S := Aside0.mk S'; clear S') | (go_at_call 49; (with_reducible refine (between_any _ _ _ _ _ _ _ _ xs 1 8 _ _ _ S.out HF.out h1 hl (by omega) (by omega)).mono ?_); rw [HR2.out]; rintro e_ w7 ⟨rfl, S'⟩; replace S := Aside0.mk S'; clear S') | (go_at_call 49; (with_reducible refine (between_any _ _ _ _ _ _ _ _ xs 0 8192 _ _ _ S.out HF.out h2 hl (by omega) (by omega)).mono ?_); rw [HR3.out]; rintro e_ w7 ⟨rfl, cs_, S'⟩; replace S := Aside0.mk S'; clear S') | ((with_reducible refine gate_load rfl ?_); refine ev_at ((HT.out _ S.out.now).at_ 7 rfl) ?_) | ((with_reducible refine gate_st rfl ?_); refine ev_set S ?_; clear S; intro _ S))
         exact ⟨rfl, gotN_bad HW.out S.out (fun _ h => h)⟩
     · -- code 2
       have hu := HU0.out
       rw [show least 2 = 0 from rfl] at hu
       rcases hr3 : betw 0 8192 104 xs i2 with ⟨r, i3⟩ | ⟨p, q⟩
       · rw [hr3, Rd.bind_ok] at hu
         have h3 := (betw_ok hr3).2.2.2
         have HR3 := Aside0.mk hr3
         rcases hr4 : mbR chkL 2 c xs i3 with ⟨b, j⟩ | ⟨p, q⟩
         · rw [hr4, Rd.bind_ok] at hu
           have HR4 := Aside0.mk hr4
           have hbk : ∃ o : Cmd, b = .submit o := by
            rw [mb_2] at hr4
            obtain ⟨o, _, _, h⟩ := Rd.bind_eq hr4
            split at h; (cases h); cases h; exact ⟨_, rfl⟩
           obtain ⟨⟨oc, os, ob⟩, rfl⟩ := hbk
           cases ob
           all_goals
            rcases hr5 : endR xs j with ⟨_, j2⟩ | ⟨p, q⟩
            · rw [hr5] at hu
              have HW := Aside0.mk hu
              have HE := Aside0.mk hr5
              clear hu hr3 hr4 hr5
              go_enter Tryd.func37, Tryd.ntmps37; go_upto_region 1 with (first | ((with_reducible refine gate_new rfl ?_); refine ev_new S 37 zM ?_; clear S; intro gr _ S; replace S := Aside0.mk S.out.sw)); go_upto_region 2 with (first | ((with_reducible refine gate_new rfl ?_); refine ev_new S 37 zM ?_; clear S; intro gm _ S; replace S := Aside0.mk S.out.sw))
              go_upto_region 5 with (first | ((with_reducible refine gate_load rfl ?_); refine ev_fld S ?_) | (go_at_call 49; (with_reducible refine (between_any _ _ _ _ _ _ _ _ xs 1 4 _ _ _ S.out HF.out hi hl (by omega) (by omega)).mono ?_); rw [HR1.out]; rintro e_ w7 ⟨rfl, S'⟩; replace S := Aside0.mk S'; clear S') | (go_at_call 49; (with_reducible refine (between_any _ _ _ _ _ _ _ _ xs 1 8 _ _ _ S.out HF.out h1 hl (by omega) (by omega)).mono ?_); rw [HR2.out]; rintro e_ w7 ⟨rfl, S'⟩; replace S := Aside0.mk S'; clear S') | (go_at_call 49; (with_reducible refine (between_any _ _ _ _ _ _ _ _ xs 0 8192 _ _ _ S.out HF.out h2 hl (by omega) (by omega)).mono ?_); rw [HR3.out]; rintro e_ w7 ⟨rfl, S'⟩; replace S := Aside0.mk S'; clear S') | ((with_reducible refine gate_load rfl ?_); refine ev_at ((HT.out _ S.out.now).at_ 12 rfl) ?_) | ((with_reducible refine gate_st rfl ?_); refine ev_set S ?_; clear S; intro _ S))
              replace S := Aside0.mk (show St w0 _ ((g, 93, rdA A xs.length cap i3) :: (gm, 37, mcells 2 c r 0 z35) :: (gr, 37, zM) :: bs) F from S.out)
              go_wp2_with (first | ((with_reducible refine gate_load rfl ?_); refine ev_fld S ?_) | ((with_reducible refine gate_load rfl ?_); refine ev_at ((HT.out _ S.out.now).at_ 13 rfl) ?_) | (go_at_call 135; refine (readSubmit_any _ _ _ _ _ _ _ _ _ _ _ c xs S.out HF.out HG.out h3 hl hcap hcap2 (HB2.out _)).mono ?_; rw [HR4.out]; rintro e_ w7 ⟨v_, rfl, S'⟩; obtain ⟨Av_, cv_, rfl⟩ := Kd.R_slice S'.now.2; replace S := Aside0.mk S'; clear S') | (go_at_call 50; (with_reducible refine (end_any _ _ _ _ _ _ _ _ xs S.out).mono ?_); rw [HE.out]; rintro e_ w7 ⟨rfl, S'⟩; replace S := Aside0.mk S'; clear S') | ((with_reducible refine gate_load rfl ?_); refine ev_load S ?_) | ((with_reducible refine gate_st rfl ?_); refine ev_store S ?_; clear S; intro _ S))
              refine bodyPost_ret (results_c1 rfl _ _ _ 37 _ (0, 0) _ rfl (S.out.at_ 2 rfl) Tryd.underlying37 rfl (by kernel_rfl)) rfl ?_
              rw [HW.out]
              exact ⟨_, rfl, S.out.cut3⟩
            · rw [hr5] at hu
              have HW := Aside0.mk hu
              have HE := Aside0.mk hr5
              clear hu hr3 hr4 hr5
              go_enter Tryd.func37, Tryd.ntmps37; go_upto_region 1 with (first | ((with_reducible refine gate_new rfl ?_); refine ev_new S 37 zM ?_; clear S; intro gr _ S; replace S := Aside0.mk S.out.sw)); go_upto_region 2 with (first | ((with_reducible refine gate_new rfl ?_); refine ev_new S 37 zM ?_; clear S; intro gm _ S; replace S := Aside0.mk S.out.sw))
              go_upto_region 5 with (first | ((with_reducible refine gate_load rfl ?_); refine ev_fld S ?_) | (go_at_call 49; (with_reducible refine (between_any _ _ _ _ _ _ _ _ xs 1 4 _ _ _ S.out HF.out hi hl (by omega) (by omega)).mono ?_); rw [HR1.out]; rintro e_ w7 ⟨rfl, S'⟩; replace S := Aside0.mk S'; clear S') | (go_at_call 49; (with_reducible refine (between_any _ _ _ _ _ _ _ _ xs 1 8 _ _ _ S.out HF.out h1 hl (by omega) (by omega)).mono ?_); rw [HR2.out]; rintro e_ w7 ⟨rfl, S'⟩; replace S := Aside0.mk S'; clear S') | (go_at_call 49; (with_reducible refine (between_any _ _ _ _ _ _ _ _ xs 0 8192 _ _ _ S.out HF.out h2 hl (by omega) (by omega)).mono ?_); rw [HR3.out]; rintro e_ w7 ⟨rfl, S'⟩; replace S := Aside0.mk S'; clear S') | ((with_reducible refine gate_load rfl ?_); refine ev_at ((HT.out _ S.out.now).at_ 12 rfl) ?_) | ((with_reducible refine gate_st rfl ?_); refine ev_set S ?_; clear S; intro _ S))
              replace S := Aside0.mk (show St w0 _ ((g, 93, rdA A xs.length cap i3) :: (gm, 37, mcells 2 c r 0 z35) :: (gr, 37, zM) :: bs) F from S.out)
              go_wp2_with (first | ((with_reducible refine gate_load rfl ?_); refine ev_fld S ?_) | ((with_reducible refine gate_load rfl ?_); refine ev_at ((HT.out _ S.out.now).at_ 13 rfl) ?_) | (go_at_call 135; refine (readSubmit_any _ _ _ _ _ _ _ _ _ _ _ c xs S.out HF.out HG.out h3 hl hcap hcap2 (HB2.out _)).mono ?_; rw [HR4.out]; rintro e_ w7 ⟨v_, rfl, S'⟩; obtain ⟨Av_, cv_, rfl⟩ := Kd.R_slice S'.now.2; replace S := Aside0.mk S'; clear S') | (go_at_call 50; (with_reducible refine (end_any _ _ _ _ _ _ _ _ xs S.out).mono ?_); rw [HE.out]; rintro e_ w7 ⟨rfl, cs_, S'⟩; replace S := Aside0.mk S'; clear S'))
              exact ⟨rfl, gotN_bad HW.out S.out (fun _ h => h.1)⟩
         · rw [hr4] at hu
           have HW := Aside0.mk hu
           have HR4 := Aside0.mk hr4
           clear hu hr3 hr4
           go_enter Tryd.func37, Tryd.ntmps37; go_upto_region 1 with (first | ((with_reducible refine gate_new rfl ?_); refine ev_new S 37 zM ?_; clear S; intro gr _ S; replace S := Aside0.mk S.out.sw)); go_upto_region 2 with (first | ((with_reducible refine gate_new rfl ?_); refine ev_new S 37 zM ?_; clear S; intro gm _ S; replace S := Aside0.mk S.out.sw))
           go_upto_region 5 with (first | ((with_reducible refine gate_load rfl ?_); refine ev_fld S ?_) | (go_at_call 49; (with_reducible refine (between_any _ _ _ _ _ _ _ _ xs 1 4 _ _ _ S.out HF.out hi hl (by omega) (by omega)).mono ?_); rw [HR1.out]; rintro e_ w7 ⟨rfl, S'⟩; replace S := Aside0.mk S'; clear S') | (go_at_call 49; (with_reducible refine (between_any _ _ _ _ _ _ _ _ xs 1 8 _ _ _ S.out HF.out h1 hl (by omega) (by omega)).mono ?_); rw [HR2.out]; rintro e_ w7 ⟨rfl, S'⟩; replace S := Aside0.mk S'; clear S') | (go_at_call 49; (with_reducible refine (between_any _ _ _ _ _ _ _ _ xs 0 8192 _ _ _ S.out HF.out h2 hl (by omega) (by omega)).mono ?_); rw [HR3.out]; rintro e_ w7 ⟨rfl, S'⟩; replace S := Aside0.mk S'; clear S') | ((with_reducible refine gate_load rfl ?_); refine ev_at ((HT.out _ S.out.now).at_ 12 rfl) ?_) | ((with_reducible refine gate_st rfl ?_); refine ev_set S ?_; clear S; intro _ S))
           replace S := Aside0.mk (show St w0 _ ((g, 93, rdA A xs.length cap i3) :: (gm, 37, mcells 2 c r 0 z35) :: (gr, 37, zM) :: bs) F from S.out)
           go_wp2_with (first | ((with_reducible refine gate_load rfl ?_); refine ev_fld S ?_) | ((with_reducible refine gate_load rfl ?_); refine ev_at ((HT.out _ S.out.now).at_ 13 rfl) ?_) | (go_at_call 135; refine (readSubmit_any _ _ _ _ _ _ _ _ _ _ _ c xs S.out HF.out HG.out h3 hl hcap hcap2 (HB2.out _)).mono ?_; rw [HR4.out]; rintro e_ w7 ⟨rfl, cs_, cs2_, S'⟩; replace S := Aside0.mk S'; clear S'))
           exact ⟨rfl, gotN_bad HW.out S.out (fun _ h => h)⟩
       · rw [hr3] at hu
         have HW := Aside0.mk hu
         have HR3 := Aside0.mk hr3
         clear hu hr3
         go_enter Tryd.func37, Tryd.ntmps37; go_upto_region 1 with (first | ((with_reducible refine gate_new rfl ?_); refine ev_new S 37 zM ?_; clear S; intro gr _ S; replace S := Aside0.mk S.out.sw)); go_upto_region 2 with (first | ((with_reducible refine gate_new rfl ?_); refine ev_new S 37 zM ?_; clear S; intro gm _ S; replace S := Aside0.mk S.out.sw))
         go_wp2_with (first | ((with_reducible refine gate_load rfl ?_); refine ev_fld S ?_) | (go_at_call 49; (with_reducible refine (between_any _ _ _ _ _ _ _ _ xs 1 4 _ _ _ S.out HF.out hi hl (by omega) (by omega)).mono ?_); rw [HR1.out]; rintro e_ w7 ⟨rfl, S'⟩; replace S := Aside0.mk S'; clear S') | (go_at_call 49; (with_reducible refine (between_any _ _ _ _ _ _ _ _ xs 1 8 _ _ _ S.out HF.out h1 hl (by omega) (by omega)).mono ?_); rw [HR2.out]; rintro e_ w7 ⟨rfl, S'⟩; replace S := Aside0.mk S'; clear S') | (go_at_call 49; (with_reducible refine (between_any _ _ _ _ _ _ _ _ xs 0 8192 _ _ _ S.out HF.out h2 hl (by omega) (by omega)).mono ?_); rw [HR3.out]; rintro e_ w7 ⟨rfl, cs_, S'⟩; replace S := Aside0.mk S'; clear S') | ((with_reducible refine gate_load rfl ?_); refine ev_at ((HT.out _ S.out.now).at_ 12 rfl) ?_) | ((with_reducible refine gate_st rfl ?_); refine ev_set S ?_; clear S; intro _ S))
         exact ⟨rfl, gotN_bad HW.out S.out (fun _ h => h)⟩
     · -- code 3
       have hu := HU0.out
       rw [show least 3 = 1 from rfl] at hu
       rcases hr3 : betw 1 8192 104 xs i2 with ⟨r, i3⟩ | ⟨p, q⟩
       · rw [hr3, Rd.bind_ok] at hu
         have h3 := (betw_ok hr3).2.2.2
         have HR3 := Aside0.mk hr3
         rcases hr4 : mbR chkL 3 c xs i3 with ⟨b, j⟩ | ⟨p, q⟩
         · rw [hr4, Rd.bind_ok] at hu
           have HR4 := Aside0.mk hr4
           obtain ⟨q0, rfl⟩ : ∃ q, b = .ack q := by rw [mb_3] at hr4; obtain ⟨q, _, _, h⟩ := Rd.bind_eq hr4; cases h; exact ⟨_, rfl⟩
           rcases hr5 : endR xs j with ⟨_, j2⟩ | ⟨p, q⟩
           · rw [hr5] at hu
             have HW := Aside0.mk hu
             have HE := Aside0.mk hr5
             clear hu hr3 hr4 hr5
             go_enter Tryd.func37, Tryd.ntmps37; go_upto_region 1 with (first | ((with_reducible refine gate_new rfl ?_); refine ev_new S 37 zM ?_; clear S; intro gr _ S; replace S := Aside0.mk S.out.sw)); go_upto_region 2 with (first | ((with_reducible refine gate_new rfl ?_); refine ev_new S 37 zM ?_; clear S; intro gm _ S; replace S := Aside0.mk S.out.sw))
             go_upto_region 5 with (first | ((with_reducible refine gate_load rfl ?_); refine ev_fld S ?_) | (go_at_call 49; (with_reducible refine (between_any _ _ _ _ _ _ _ _ xs 1 4 _ _ _ S.out HF.out hi hl (by omega) (by omega)).mono ?_); rw [HR1.out]; rintro e_ w7 ⟨rfl, S'⟩; replace S := Aside0.mk S'; clear S') | (go_at_call 49; (with_reducible refine (between_any _ _ _ _ _ _ _ _ xs 1 8 _ _ _ S.out HF.out h1 hl (by omega) (by omega)).mono ?_); rw [HR2.out]; rintro e_ w7 ⟨rfl, S'⟩; replace S := Aside0.mk S'; clear S') | (go_at_call 49; (with_reducible refine (between_any _ _ _ _ _ _ _ _ xs 1 8192 _ _ _ S.out HF.out h2 hl (by omega) (by omega)).mono ?_); rw [HR3.out]; rintro e_ w7 ⟨rfl, S'⟩; replace S := Aside0.mk S'; clear S') | ((with_reducible refine gate_load rfl ?_); refine ev_at ((HT.out _ S.out.now).at_ 17 rfl) ?_) | ((with_reducible refine gate_st rfl ?_); refine ev_set S ?_; clear S; intro _ S))
             replace S := Aside0.mk (show St w0 _ ((g, 93, rdA A xs.length cap i3) :: (gm, 37, mcells 3 c r 0 z35) :: (gr, 37, zM) :: bs) F from S.out)
             go_wp2_with (first | ((with_reducible refine gate_load rfl ?_); refine ev_fld S ?_) | ((with_reducible refine gate_load rfl ?_); refine ev_at ((HT.out _ S.out.now).at_ 18 rfl) ?_) | (go_at_call 137; refine (readSeq_any _ _ _ _ _ _ _ _ _ _ _ _ c xs S.out HF.out h3 hl).mono ?_; rw [HR4.out]; rintro e_ w7 ⟨v_, rfl, S'⟩; replace S := Aside0.mk S'; clear S') | (go_at_call 50; (with_reducible refine (end_any _ _ _ _ _ _ _ _ xs S.out).mono ?_); rw [HE.out]; rintro e_ w7 ⟨rfl, S'⟩; replace S := Aside0.mk S'; clear S') | ((with_reducible refine gate_load rfl ?_); refine ev_load S ?_) | ((with_reducible refine gate_st rfl ?_); refine ev_store S ?_; clear S; intro _ S))
             refine bodyPost_ret (results_c1 rfl _ _ _ 37 _ (0, 0) _ rfl (S.out.at_ 2 rfl) Tryd.underlying37 rfl (by kernel_rfl)) rfl ?_
             rw [HW.out]
             exact ⟨_, rfl, S.out.cut3⟩
           · rw [hr5] at hu
             have HW := Aside0.mk hu
             have HE := Aside0.mk hr5
             clear hu hr3 hr4 hr5
             go_enter Tryd.func37, Tryd.ntmps37; go_upto_region 1 with (first | ((with_reducible refine gate_new rfl ?_); refine ev_new S 37 zM ?_; clear S; intro gr _ S; replace S := Aside0.mk S.out.sw)); go_upto_region 2 with (first | ((with_reducible refine gate_new rfl ?_); refine ev_new S 37 zM ?_; clear S; intro gm _ S; replace S := Aside0.mk S.out.sw))
             go_upto_region 5 with (first | ((with_reducible refine gate_load rfl ?_); refine ev_fld S ?_) | (go_at_call 49; (with_reducible refine (between_any _ _ _ _ _ _ _ _ xs 1 4 _ _ _ S.out HF.out hi hl (by omega) (by omega)).mono ?_); rw [HR1.out]; rintro e_ w7 ⟨rfl, S'⟩; replace S := Aside0.mk S'; clear S') | (go_at_call 49; (with_reducible refine (between_any _ _ _ _ _ _ _ _ xs 1 8 _ _ _ S.out HF.out h1 hl (by omega) (by omega)).mono ?_); rw [HR2.out]; rintro e_ w7 ⟨rfl, S'⟩; replace S := Aside0.mk S'; clear S') | (go_at_call 49; (with_reducible refine (between_any _ _ _ _ _ _ _ _ xs 1 8192 _ _ _ S.out HF.out h2 hl (by omega) (by omega)).mono ?_); rw [HR3.out]; rintro e_ w7 ⟨rfl, S'⟩; replace S := Aside0.mk S'; clear S') | ((with_reducible refine gate_load rfl ?_); refine ev_at ((HT.out _ S.out.now).at_ 17 rfl) ?_) | ((with_reducible refine gate_st rfl ?_); refine ev_set S ?_; clear S; intro _ S))
             replace S := Aside0.mk (show St w0 _ ((g, 93, rdA A xs.length cap i3) :: (gm, 37, mcells 3 c r 0 z35) :: (gr, 37, zM) :: bs) F from S.out)
             go_wp2_with (first | ((with_reducible refine gate_load rfl ?_); refine ev_fld S ?_) | ((with_reducible refine gate_load rfl ?_); refine ev_at ((HT.out _ S.out.now).at_ 18 rfl) ?_) | (go_at_call 137; refine (readSeq_any _ _ _ _ _ _ _ _ _ _ _ _ c xs S.out HF.out h3 hl).mono ?_; rw [HR4.out]; rintro e_ w7 ⟨v_, rfl, S'⟩; replace S := Aside0.mk S'; clear S') | (go_at_call 50; (with_reducible refine (end_any _ _ _ _ _ _ _ _ xs S.out).mono ?_); rw [HE.out]; rintro e_ w7 ⟨rfl, cs_, S'⟩; replace S := Aside0.mk S'; clear S'))
             exact ⟨rfl, gotN_bad HW.out S.out (fun _ h => h.1)⟩
         · rw [hr4] at hu
           have HW := Aside0.mk hu
           have HR4 := Aside0.mk hr4
           clear hu hr3 hr4
           go_enter Tryd.func37, Tryd.ntmps37; go_upto_region 1 with (first | ((with_reducible refine gate_new rfl ?_); refine ev_new S 37 zM ?_; clear S; intro gr _ S; replace S := Aside0.mk S.out.sw)); go_upto_region 2 with (first | ((with_reducible refine gate_new rfl ?_); refine ev_new S 37 zM ?_; clear S; intro gm _ S; replace S := Aside0.mk S.out.sw))
           go_upto_region 5 with (first | ((with_reducible refine gate_load rfl ?_); refine ev_fld S ?_) | (go_at_call 49; (with_reducible refine (between_any _ _ _ _ _ _ _ _ xs 1 4 _ _ _ S.out HF.out hi hl (by omega) (by omega)).mono ?_); rw [HR1.out]; rintro e_ w7 ⟨rfl, S'⟩; replace S := Aside0.mk S'; clear S') | (go_at_call 49; (with_reducible refine (between_any _ _ _ _ _ _ _ _ xs 1 8 _ _ _ S.out HF.out h1 hl (by omega) (by omega)).mono ?_); rw [HR2.out]; rintro e_ w7 ⟨rfl, S'⟩; replace S := Aside0.mk S'; clear S') | (go_at_call 49; (with_reducible refine (between_any _ _ _ _ _ _ _ _ xs 1 8192 _ _ _ S.out HF.out h2 hl (by omega) (by omega)).mono ?_); rw [HR3.out]; rintro e_ w7 ⟨rfl, S'⟩; replace S := Aside0.mk S'; clear S') | ((with_reducible refine gate_load rfl ?_); refine ev_at ((HT.out _ S.out.now).at_ 17 rfl) ?_) | ((with_reducible refine gate_st rfl ?_); refine ev_set S ?_; clear S; intro _ S))
           replace S := Aside0.mk (show St w0 _ ((g, 93, rdA A xs.length cap i3) :: (gm, 37, mcells 3 c r 0 z35) :: (gr, 37, zM) :: bs) F from S.out)
           go_wp2_with (first | ((with_reducible refine gate_load rfl ?_); refine ev_fld S ?_) | ((with_reducible refine gate_load rfl ?_); refine ev_at ((HT.out _ S.out.now).at_ 18 rfl) ?_) | (go_at_call 137; refine (readSeq_any _ _ _ _ _ _ _ _ _ _ _ _ c xs S.out HF.out h3 hl).mono ?_; rw [HR4.out]; rintro e_ w7 ⟨rfl, cs_, cs2_, S'⟩; replace S := Aside0.mk S'; clear S'))
           exact ⟨rfl, gotN_bad HW.out S.out (fun _ h => h)⟩
       · rw [hr3] at hu
         have HW := Aside0.mk hu
         have HR3 := Aside0.mk hr3
         clear hu hr3
         go_enter Tryd.func37, Tryd.ntmps37; go_upto_region 1 with (first | ((with_reducible refine gate_new rfl ?_); refine ev_new S 37 zM ?_; clear S; intro gr _ S; replace S := Aside0.mk S.out.sw)); go_upto_region 2 with (first | ((with_reducible refine gate_new rfl ?_); refine ev_new S 37 zM ?_; clear S; intro gm _ S; replace S := Aside0.mk S.out.sw))
         go_wp2_with (first | ((with_reducible refine gate_load rfl ?_); refine ev_fld S ?_) | (go_at_call 49; (with_reducible refine (between_any _ _ _ _ _ _ _ _ xs 1 4 _ _ _ S.out HF.out hi hl (by omega) (by omega)).mono ?_); rw [HR1.out]; rintro e_ w7 ⟨rfl, S'⟩; replace S := Aside0.mk S'; clear S') | (go_at_call 49; (with_reducible refine (between_any _ _ _ _ _ _ _ _ xs 1 8 _ _ _ S.out HF.out h1 hl (by omega) (by omega)).mono ?_); rw [HR2.out]; rintro e_ w7 ⟨rfl, S'⟩; replace S := Aside0.mk S'; clear S') | (go_at_call 49; (with_reducible refine (between_any _ _ _ _ _ _ _ _ xs 1 8192 _ _ _ S.out HF.out h2 hl (by omega) (by omega)).mono ?_); rw [HR3.out]; rintro e_ w7 ⟨rfl, cs_, S'⟩; replace S := Aside0.mk S'; clear S') | ((with_reducible refine gate_load rfl ?_); refine ev_at ((HT.out _ S.out.now).at_ 17 rfl) ?_) | ((with_reducible refine gate_st rfl ?_); refine ev_set S ?_; clear S; intro _ S))
         exact ⟨rfl, gotN_bad HW.out S.out (fun _ h => h)⟩
     · -- code 4
       have hu := HU0.out
       rw [show least 4 = 1 from rfl] at hu
       rcases hr3 : betw 1 8192 104 xs i2 with ⟨r, i3⟩ | ⟨p, q⟩
       · rw [hr3, Rd.bind_ok] at hu
         have h3 := (betw_ok hr3).2.2.2
         have HR3 := Aside0.mk hr3
         rcases hr4 : mbR chkL 4 c xs i3 with ⟨b, j⟩ | ⟨p, q⟩
         · rw [hr4, Rd.bind_ok] at hu
           have HR4 := Aside0.mk hr4
           have hbk : ∃ o : Cmd, b = .cast o := by
            rw [mb_4] at hr4
            obtain ⟨o, _, _, h⟩ := Rd.bind_eq hr4
            cases h; exact ⟨_, rfl⟩
           obtain ⟨⟨oc, os, ob⟩, rfl⟩ := hbk
           cases ob
           all_goals
            rcases hr5 : endR xs j with ⟨_, j2⟩ | ⟨p, q⟩
            · rw [hr5] at hu
              have HW := Aside0.mk hu
              have HE := Aside0.mk hr5
              clear hu hr3 hr4 hr5
              go_enter Tryd.func37, Tryd.ntmps37; go_upto_region 1 with (first | ((with_reducible refine gate_new rfl ?_); refine ev_new S 37 zM ?_; clear S; intro gr _ S; replace S := Aside0.mk S.out.sw)); go_upto_region 2 with (first | ((with_reducible refine gate_new rfl ?_); refine ev_new S 37 zM ?_; clear S; intro gm _ S; replace S := Aside0.mk S.out.sw))
              go_upto_region 5 with (first | ((with_reducible refine gate_load rfl ?_); refine ev_fld S ?_) | (go_at_call 49; (with_reducible refine (between_any _ _ _ _ _ _ _ _ xs 1 4 _ _ _ S.out HF.out hi hl (by omega) (by omega)).mono ?_); rw [HR1.out]; rintro e_ w7 ⟨rfl, S'⟩; replace S := Aside0.mk S'; clear S') | (go_at_call 49; (with_reducible refine (between_any _ _ _ _ _ _ _ _ xs 1 8 _ _ _ S.out HF.out h1 hl (by omega) (by omega)).mono ?_); rw [HR2.out]; rintro e_ w7 ⟨rfl, S'⟩; replace S := Aside0.mk S'; clear S') | (go_at_call 49; (with_reducible refine (between_any _ _ _ _ _ _ _ _ xs 1 8192 _ _ _ S.out HF.out h2 hl (by omega) (by omega)).mono ?_); rw [HR3.out]; rintro e_ w7 ⟨rfl, S'⟩; replace S := Aside0.mk S'; clear S') | ((with_reducible refine gate_load rfl ?_); refine ev_at ((HT.out _ S.out.now).at_ 22 rfl) ?_) | ((with_reducible refine gate_st rfl ?_); refine ev_set S ?_; clear S; intro _ S))
              replace S := Aside0.mk (show St w0 _ ((g, 93, rdA A xs.length cap i3) :: (gm, 37, mcells 4 c r 0 z35) :: (gr, 37, zM) :: bs) F from S.out)
              go_wp2_with (first | ((with_reducible refine gate_load rfl ?_); refine ev_fld S ?_) | ((with_reducible refine gate_load rfl ?_); refine ev_at ((HT.out _ S.out.now).at_ 23 rfl) ?_) | (go_at_call 139; refine (readCast_any _ _ _ _ _ _ _ _ _ _ _ _ c xs S.out HF.out HG.out h3 hl hcap hcap2 (HB2.out _)).mono ?_; rw [HR4.out]; rintro e_ w7 ⟨v_, rfl, S'⟩; obtain ⟨Av_, cv_, rfl⟩ := Kd.R_slice S'.now.2; replace S := Aside0.mk S'; clear S') | (go_at_call 50; (with_reducible refine (end_any _ _ _ _ _ _ _ _ xs S.out).mono ?_); rw [HE.out]; rintro e_ w7 ⟨rfl, S'⟩; replace S := Aside0.mk S'; clear S') | ((with_reducible refine gate_load rfl ?_); refine ev_load S ?_) | ((with_reducible refine gate_st rfl ?_); refine ev_store S ?_; clear S; intro _ S))
              refine bodyPost_ret (results_c1 rfl _ _ _ 37 _ (0, 0) _ rfl (S.out.at_ 2 rfl) Tryd.underlying37 rfl (by kernel_rfl)) rfl ?_
              rw [HW.out]
              exact ⟨_, rfl, S.out.cut3⟩
            · rw [hr5] at hu
              have HW := Aside0.mk hu
              have HE := Aside0.mk hr5
              clear hu hr3 hr4 hr5
              go_enter Tryd.func37, Tryd.ntmps37; go_upto_region 1 with (first | ((with_reducible refine gate_new rfl ?_); refine ev_new S 37 zM ?_; clear S; intro gr _ S; replace S := Aside0.mk S.out.sw)); go_upto_region 2 with (first | ((with_reducible refine gate_new rfl ?_); refine ev_new S 37 zM ?_; clear S; intro gm _ S; replace S := Aside0.mk S.out.sw))
              go_upto_region 5 with (first | ((with_reducible refine gate_load rfl ?_); refine ev_fld S ?_) | (go_at_call 49; (with_reducible refine (between_any _ _ _ _ _ _ _ _ xs 1 4 _ _ _ S.out HF.out hi hl (by omega) (by omega)).mono ?_); rw [HR1.out]; rintro e_ w7 ⟨rfl, S'⟩; replace S := Aside0.mk S'; clear S') | (go_at_call 49; (with_reducible refine (between_any _ _ _ _ _ _ _ _ xs 1 8 _ _ _ S.out HF.out h1 hl (by omega) (by omega)).mono ?_); rw [HR2.out]; rintro e_ w7 ⟨rfl, S'⟩; replace S := Aside0.mk S'; clear S') | (go_at_call 49; (with_reducible refine (between_any _ _ _ _ _ _ _ _ xs 1 8192 _ _ _ S.out HF.out h2 hl (by omega) (by omega)).mono ?_); rw [HR3.out]; rintro e_ w7 ⟨rfl, S'⟩; replace S := Aside0.mk S'; clear S') | ((with_reducible refine gate_load rfl ?_); refine ev_at ((HT.out _ S.out.now).at_ 22 rfl) ?_) | ((with_reducible refine gate_st rfl ?_); refine ev_set S ?_; clear S; intro _ S))
              replace S := Aside0.mk (show St w0 _ ((g, 93, rdA A xs.length cap i3) :: (gm, 37, mcells 4 c r 0 z35) :: (gr, 37, zM) :: bs) F from S.out)
              go_wp2_with (first | ((with_reducible refine gate_load rfl ?_); refine ev_fld S ?_) | ((with_reducible refine gate_load rfl ?_); refine ev_at ((HT.out _ S.out.now).at_ 23 rfl) ?_) | (go_at_call 139; refine (readCast_any _ _ _ _ _ _ _ _ _ _ _ _ c xs S.out HF.out HG.out h3 hl hcap hcap2 (HB2.out _)).mono ?_; rw [HR4.out]; rintro e_ w7 ⟨v_, rfl, S'⟩; obtain ⟨Av_, cv_, rfl⟩ := Kd.R_slice S'.now.2; replace S := Aside0.mk S'; clear S') | (go_at_call 50; (with_reducible refine (end_any _ _ _ _ _ _ _ _ xs S.out).mono ?_); rw [HE.out]; rintro e_ w7 ⟨rfl, cs_, S'⟩; replace S := Aside0.mk S'; clear S'))
              exact ⟨rfl, gotN_bad HW.out S.out (fun _ h => h.1)⟩
         · rw [hr4] at hu
           have HW := Aside0.mk hu
           have HR4 := Aside0.mk hr4
           clear hu hr3 hr4
           go_enter Tryd.func37, Tryd.ntmps37; go_upto_region 1 with (first | ((with_reducible refine gate_new rfl ?_); refine ev_new S 37 zM ?_; clear S; intro gr _ S; replace S := Aside0.mk S.out.sw)); go_upto_region 2 with (first | ((with_reducible refine gate_new rfl ?_); refine ev_new S 37 zM ?_; clear S; intro gm _ S; replace S := Aside0.mk S.out.sw))
           go_upto_region 5 with (first | ((with_reducible refine gate_load rfl ?_); refine ev_fld S ?_) | (go_at_call 49; (with_reducible refine (between_any _ _ _ _ _ _ _ _ xs 1 4 _ _ _ S.out HF.out hi hl (by omega) (by omega)).mono ?_); rw [HR1.out]; rintro e_ w7 ⟨rfl, S'⟩; replace S := Aside0.mk S'; clear S') | (go_at_call 49; (with_reducible refine (between_any _ _ _ _ _ _ _ _ xs 1 8 _ _ _ S.out HF.out h1 hl (by omega) (by omega)).mono ?_); rw [HR2.out]; rintro e_ w7 ⟨rfl, S'⟩; replace S := Aside0.mk S'; clear S') | (go_at_call 49; (with_reducible refine (between_any _ _ _ _ _ _ _ _ xs 1 8192 _ _ _ S.out HF.out h2 hl (by omega) (by omega)).mono ?_); rw [HR3.out]; rintro e_ w7 ⟨rfl, S'⟩; replace S := Aside0.mk S'; clear S') | ((with_reducible refine gate_load rfl ?_); refine ev_at ((HT.out _ S.out.now).at_ 22 rfl) ?_) | ((with_reducible refine gate_st rfl ?_); refine ev_set S ?_; clear S; intro _ S))
           replace S := Aside0.mk (show St w0 _ ((g, 93, rdA A xs.length cap i3) :: (gm, 37, mcells 4 c r 0 z35) :: (gr, 37, zM) :: bs) F from S.out)
           go_wp2_with (first | ((with_reducible refine gate_load rfl ?_); refine ev_fld S ?_) | ((with_reducible refine gate_load rfl ?_); refine ev_at ((HT.out _ S.out.now).at_ 23 rfl) ?_) | (go_at_call 139; refine (readCast_any _ _ _ _ _ _ _ _ _ _ _ _ c xs S.out HF.out HG.out h3 hl hcap hcap2 (HB2.out _)).mono ?_; rw [HR4.out]; rintro e_ w7 ⟨rfl, cs_, cs2_, S'⟩; replace S := Aside0.mk S'; clear S'))
           exact ⟨rfl, gotN_bad HW.out S.out (fun _ h => h)⟩
       · rw [hr3] at hu
         have HW := Aside0.mk hu
         have HR3 := Aside0.mk hr3
         clear hu hr3
         go_enter Tryd.func37, Tryd.ntmps37; go_upto_region 1 with (first | ((with_reducible refine gate_new rfl ?_); refine ev_new S 37 zM ?_; clear S; intro gr _ S; replace S := Aside0.mk S.out.sw)); go_upto_region 2 with (first | ((with_reducible refine gate_new rfl ?_); refine ev_new S 37 zM ?_; clear S; intro gm _ S; replace S := Aside0.mk S.out.sw))
         go_wp2_with (first | ((with_reducible refine gate_load rfl ?_); refine ev_fld S ?_) | (go_at_call 49; (with_reducible refine (between_any _ _ _ _ _ _ _ _ xs 1 4 _ _ _ S.out HF.out hi hl (by omega) (by omega)).mono ?_); rw [HR1.out]; rintro e_ w7 ⟨rfl, S'⟩; replace S := Aside0.mk S'; clear S') | (go_at_call 49; (with_reducible refine (between_any _ _ _ _ _ _ _ _ xs 1 8 _ _ _ S.out HF.out h1 hl (by omega) (by omega)).mono ?_); rw [HR2.out]; rintro e_ w7 ⟨rfl, S'⟩; replace S := Aside0.mk S'; clear S') | (go_at_call 49; (with_reducible refine (between_any _ _ _ _ _ _ _ _ xs 1 8192 _ _ _ S.out HF.out h2 hl (by omega) (by omega)).mono ?_); rw [HR3.out]; rintro e_ w7 ⟨rfl, cs_, S'⟩; replace S := Aside0.mk S'; clear S') | ((with_reducible refine gate_load rfl ?_); refine ev_at ((HT.out _ S.out.now).at_ 22 rfl) ?_) | ((with_reducible refine gate_st rfl ?_); refine ev_set S ?_; clear S; intro _ S))
         exact ⟨rfl, gotN_bad HW.out S.out (fun _ h => h)⟩
   · have HW := Aside0.mk (show msgR chkL xs = .bad p q by unfold msgR; rw [hr1, Rd.bind_ok, hr2]; rfl)
     have HR2 := Aside0.mk hr2
     have hk4 : k = 1 ∨ k = 2 ∨ k = 3 ∨ k = 4 := by omega
     clear hr1 hr2 hk hk4
     go_enter Tryd.func37, Tryd.ntmps37; go_upto_region 1 with (first | ((with_reducible refine gate_new rfl ?_); refine ev_new S 37 zM ?_; clear S; intro gr _ S; replace S := Aside0.mk S.out.sw)); go_upto_region 2 with (first | ((with_reducible refine gate_new rfl ?_); refine ev_new S 37 zM ?_; clear S; intro gm _ S; replace S := Aside0.mk S.out.sw))
     go_wp2_with (first | ((with_reducible refine gate_load rfl ?_); refine ev_fld S ?_) | (go_at_call 49; (with_reducible refine (between_any _ _ _ _ _ _ _ _ xs 1 4 _ _ _ S.out HF.out hi hl (by omega) (by omega)).mono ?_); rw [HR1.out]; rintro e_ w7 ⟨rfl, S'⟩; replace S := Aside0.mk S'; clear S') | (go_at_call 49; (with_reducible refine (between_any _ _ _ _ _ _ _ _ xs 1 8 _ _ _ S.out HF.out h1 hl (by omega) (by omega)).mono ?_); rw [HR2.out]; rintro e_ w7 ⟨rfl, cs_, S'⟩; replace S := Aside0.mk S'; clear S') | ((with_reducible refine gate_st rfl ?_); refine ev_set S ?_; clear S; intro _ S))
     exact ⟨rfl, gotN_bad HW.out S.out (fun _ h => h)⟩
 · have HW := Aside0.mk (show msgR chkL xs = .bad p q by unfold msgR; rw [hr1]; rfl)
   have HR1 := Aside0.mk hr1
   clear hr1
   go_enter Tryd.func37, Tryd.ntmps37; go_upto_region 1 with (first | ((with_reducible refine gate_new rfl ?_); refine ev_new S 37 zM ?_; clear S; intro gr _ S; replace S := Aside0.mk S.out.sw)); go_upto_region 2 with (first | ((with_reducible refine gate_new rfl ?_); refine ev_new S 37 zM ?_; clear S; intro gm _ S; replace S := Aside0.mk S.out.sw))
   go_wp2_with (first | ((with_reducible refine gate_load rfl ?_); refine ev_fld S ?_) | (go_at_call 49; (with_reducible refine (between_any _ _ _ _ _ _ _ _ xs 1 4 _ _ _ S.out HF.out hi hl (by omega) (by omega)).mono ?_); rw [HR1.out]; rintro e_ w7 ⟨rfl, cs_, S'⟩; replace S := Aside0.mk S'; clear S'))
   exact ⟨rfl, gotN_bad HW.out S.out (fun _ h => h)⟩
end Go.Proofs.YtjnicgfkogfifaaDoor
end

section
/- What the rows of this seat hand on: the tables that lie where they lie; a world that holds them. -/
namespace Go.Proofs.YtjnicgfkogfifaaDoor
open Go.ChangeShapes Go.WideShapes Go.ChangeAt Go.RowKit Go.Proofs.YtjnicgfkogfifaaDoor.PAll Go.Proofs.YtjnicgfkogfifaaDoorW.PrintWords

theorem Tryd.own : ownKnob Tryd.prog.godebug = none := by kernel_rfl
theorem Tryd.laidOut : laidOutB Tryd.prog = true := by kernel_rfl
theorem bars_shape {H : Type} {enc : TypeId × Value → H} {P : Program} {w : World} {base : Nat} {sp : Nat → Bool} {held : Bool} {fuel : Nat} {t e : TypeId} {n : Nat} {f0 f1 : Field} {cs : List Value} {zs : List (Int × Int)} {p : List MemPlace}
 (ht : P.underlying t = some (.array n e)) (he : P.underlying e = some (.struct #[f0, f1])) (hi0 : P.underlying f0.type = some (.int .i32)) (hi1 : P.underlying f1.type = some (.int .i32))
 (ho0 : f0.offset = 0) (ho1 : f1.offset = 1) (c0 : P.cellsOf f0.type = 1) (c1 : P.cellsOf f1.type = 1) (ce : P.cellsOf e = 2) (hn : n = zs.length)
 (h : DataW.trod enc P w base sp held fuel t cs = some (.agg (zs.map fun z => .agg [.lit (.int .i32 z.1), .lit (.int .i32 z.2)]), p)) :
 ∀ j, j < n → cs[j * 2]? = some (.int .i32 (zs.getD j (0, 0)).1) ∧ cs[j * 2 + 1]? = some (.int .i32 (zs.getD j (0, 0)).2) := by
 obtain ⟨xs, m, _, hx, hl, hlen, hf⟩ := DataW.trod_array ht h
 simp only [Prod.mk.injEq, DataW.agg.injEq] at hx
 intro j hj
 have hj2 : j < xs.length := by omega
 have h1 := hf j hj
 rw [List.getElem?_eq_getElem hj2] at h1
 obtain ⟨y0, y1, m2, hy, hl2, t0, t1⟩ := trod_struct2 he h1
 rw [ho0, c0] at t0
 rw [ho1, c1] at t1
 obtain ⟨a, ha, rfl, _⟩ := DataW.trod_int hi0 t0
 obtain ⟨b, hb, rfl, _⟩ := DataW.trod_int hi1 t1
 have hz : (xs.map (·.1))[j]? = (zs.map fun z => (DataW.agg [.lit (.int .i32 z.1), .lit (.int .i32 z.2)] : DataW H))[j]? := by rw [hx.1]
 rw [List.getElem?_map, List.getElem?_map, List.getElem?_eq_getElem hj2, List.getElem?_eq_getElem (by omega : j < zs.length), hy] at hz
 simp only [Option.map_some, Option.some.injEq, DataW.agg.injEq, List.cons.injEq, DataW.lit.injEq, Lit.int.injEq, true_and, and_true] at hz
 rw [ce] at ha hb
 rw [List.getD_eq_getElem?_getD, List.getElem?_eq_getElem (by omega : j < zs.length), Option.getD_some, ← hz.1, ← hz.2]
 have hq : ∀ (l : List Value) (u v : Value), ((l.take 2).drop 0).take 1 = [u] → ((l.take 2).drop 1).take 1 = [v] → l[0]? = some u ∧ l[1]? = some v := by
  intro l u v h0 h1
  match l with
  | [] => simp at h0
  | [x] => simp at h1
  | x :: y :: r => simp at h0 h1; simp [h0, h1]
 have := hq _ _ _ ha hb
 rw [List.getElem?_drop, List.getElem?_drop] at this
 exact this

theorem bars_of_vars {W : World} {rest : List (String × DataW Unit)} {ps : List MemPlace} (h : DataW.LaidVars Tryd.prog W (("redraft/utext.bars", Rows.laid_redraft_utext_bars) :: rest) ps) : GW W := by
 obtain ⟨g, t, cs, fuel, p, q, hg, ht, hvar, hd, _, _⟩ := h
 obtain rfl : 2 = g := Option.some.inj ((show Tryd.prog.globalNamed "redraft/utext.bars" = some 2 by kernel_rfl).symm.trans hg)
 obtain rfl : 164 = t := Option.some.inj ((show (Tryd.prog.globals[2]?).map (·.type) = some 164 by kernel_rfl).symm.trans ht)
 have hs := bars_shape (zs := barsL) Tryd.underlying164 Tryd.underlying163 Tryd.underlying21 Tryd.underlying21 rfl rfl (by kernel_rfl) (by kernel_rfl) (by kernel_rfl) rfl hd
 have hc : ∀ o, W.cell? ⟨2, o, none⟩ = cs[o]? := fun o => World.var?_cell hg hvar o
 have hcell : ∀ j, j < 5 → W.cell? ⟨2, j * 2, none⟩ = some (.int .i32 (barsL.getD j (0, 0)).1) ∧ W.cell? ⟨2, j * 2 + 1, none⟩ = some (.int .i32 (barsL.getD j (0, 0)).2) := fun j hj => by
  obtain ⟨e0, e1⟩ := hs j hj
  rw [hc, hc, ← Array.getElem?_toList, ← Array.getElem?_toList]
  exact ⟨e0, e1⟩
 exact ⟨World.block_lt_of_cell? W ⟨2, 0, none⟩ (hcell 0 (by decide)).1, hcell⟩
section
variable {P : Program} {w : World} {fuel : Nat} {t : TypeId} {cs : List Value} {p : List MemPlace}
theorem one_of_drop {l : List Value} {k : Nat} {v : Value} (h : ((l.drop k).take 1) = [v]) : l[k]? = some v := by
 have : ((l.drop k).take 1)[0]? = some v := by rw [h]; rfl
 rwa [List.getElem?_take_of_lt (by omega), List.getElem?_drop, Nat.add_zero] at this
theorem nil_of_trod {ps rs : Array TypeId} {va : Bool} (ht : P.underlying t = some (.func ps rs va)) (h : DataW.trod (funcToken P) P w 0 (fun _ => true) true fuel t cs = some (.nil, p)) : cs = [.nilFunc] := by
 cases fuel with
 | zero => simp [DataW.trod] at h
 | succ n =>
  unfold DataW.trod at h
  rw [ht] at h
  split at h <;> simp_all
theorem held_of_trod {ps rs : Array TypeId} {va : Bool} {b : UInt8} {r : List UInt8} {f0 : FuncId} (ht : P.underlying t = some (.func ps rs va)) (hone : ((List.range P.funcs.size).filter fun f => (P.funcs[f]?).any (·.name.toUTF8.data.toList == b :: r)) = [f0])
 (h : DataW.trod (funcToken P) P w 0 (fun _ => true) true fuel t cs = some (.held (b :: r), p)) : cs = [fnV f0] := by
 have h1 : ∃ v, cs = [v] := by
  cases fuel with
  | zero => simp [DataW.trod] at h
  | succ n =>
   unfold DataW.trod at h
   rw [ht] at h
   split at h <;> simp_all
 obtain ⟨v, rfl⟩ := h1
 rw [func_of_trod ht hone h]
theorem form_row {a b : Bool} {n : Int} {d e : DataW (List UInt8)} (h : DataW.trod (funcToken Tryd.prog) Tryd.prog w 0 (fun _ => true) true fuel 86 cs = some (.agg [.lit (.bool a), .lit (.bool b), .lit (.int .i64 n), d, e], p)) :
 cs[0]? = some (.bool a) ∧ cs[1]? = some (.bool b) ∧ cs[2]? = some (.int .i64 n) ∧ (∃ m q, DataW.trod (funcToken Tryd.prog) Tryd.prog w 0 (fun _ => true) true m 83 ((cs.drop 3).take 1) = some (d, q)) ∧ (∃ m q, DataW.trod (funcToken Tryd.prog) Tryd.prog w 0 (fun _ => true) true m 84 ((cs.drop 4).take 1) = some (e, q)) := by
 obtain ⟨xs, m, _, hx, hl, hlen, hf⟩ := DataW.trod_struct Tryd.underlying86 h
 match xs, hlen with
 | [y0, y1, y2, y3, y4], _ =>
  simp only [List.map_cons, List.map_nil, Prod.mk.injEq, DataW.agg.injEq, List.cons.injEq, and_true] at hx
  obtain ⟨⟨e0, e1, e2, e3, e4⟩, _⟩ := hx
  have k4 : Tryd.prog.cellsOf 4 = 1 := by kernel_rfl
  have k3 : Tryd.prog.cellsOf 3 = 1 := by kernel_rfl
  have k83 : Tryd.prog.cellsOf 83 = 1 := by kernel_rfl
  have k84 : Tryd.prog.cellsOf 84 = 1 := by kernel_rfl
  have f0 : DataW.trod (funcToken Tryd.prog) Tryd.prog w 0 (fun _ => true) true m 4 ((cs.drop 0).take (Tryd.prog.cellsOf 4)) = some y0 := hf 0 _ rfl
  have f1 : DataW.trod (funcToken Tryd.prog) Tryd.prog w 0 (fun _ => true) true m 4 ((cs.drop 1).take (Tryd.prog.cellsOf 4)) = some y1 := hf 1 _ rfl
  have f2 : DataW.trod (funcToken Tryd.prog) Tryd.prog w 0 (fun _ => true) true m 3 ((cs.drop 2).take (Tryd.prog.cellsOf 3)) = some y2 := hf 2 _ rfl
  have f3 : DataW.trod (funcToken Tryd.prog) Tryd.prog w 0 (fun _ => true) true m 83 ((cs.drop 3).take (Tryd.prog.cellsOf 83)) = some y3 := hf 3 _ rfl
  have f4 : DataW.trod (funcToken Tryd.prog) Tryd.prog w 0 (fun _ => true) true m 84 ((cs.drop 4).take (Tryd.prog.cellsOf 84)) = some y4 := hf 4 _ rfl
  rw [k4] at f0 f1; rw [k3] at f2; rw [k83] at f3; rw [k84] at f4
  obtain ⟨b0, c0, g0⟩ := DataW.trod_bool Tryd.underlying4 f0
  obtain ⟨b1, c1, g1⟩ := DataW.trod_bool Tryd.underlying4 f1
  obtain ⟨b2, c2, g2, _⟩ := DataW.trod_int Tryd.underlying3 f2
  rw [g0] at e0; rw [g1] at e1; rw [g2] at e2
  simp only [DataW.lit.injEq, Lit.bool.injEq, Lit.int.injEq, true_and] at e0 e1 e2
  subst e0 e1 e2
  refine ⟨one_of_drop c0, one_of_drop c1, one_of_drop c2, ⟨m, y3.2, ?_⟩, ⟨m, y4.2, ?_⟩⟩
  · rw [e3]; exact f3
  · rw [e4]; exact f4
end
theorem forms_of {W : World} {l : List (String × DataW Unit)} (h : laidMetH Tryd.prog l W) (hm : ("redraft/msg.forms", Rows.laid_redraft_msg_forms) ∈ l) : GF W := by
 obtain ⟨g, t, cs, fuel, p, hg, ht, hvar, hd⟩ := h.funcs hm
 obtain rfl : 0 = g := Option.some.inj ((show Tryd.prog.globalNamed "redraft/msg.forms" = some 0 by kernel_rfl).symm.trans hg)
 obtain rfl : 87 = t := Option.some.inj ((show (Tryd.prog.globals[0]?).map (·.type) = some 87 by kernel_rfl).symm.trans ht)
 obtain ⟨xs, m, _, hx, hl, hlen, hf⟩ := DataW.trod_array Tryd.underlying87 hd
 match xs, hlen with
 | [y0, y1, y2, y3, y4], _ =>
  simp only [List.map_cons, List.map_nil, Prod.mk.injEq] at hx
  obtain ⟨e0, x1⟩ := List.cons.inj (DataW.agg.inj hx.1)
  obtain ⟨e1, x2⟩ := List.cons.inj x1
  obtain ⟨e2, x3⟩ := List.cons.inj x2
  obtain ⟨e3, x4⟩ := List.cons.inj x3
  obtain ⟨e4, _⟩ := List.cons.inj x4
  have c86 : Tryd.prog.cellsOf 86 = 5 := by kernel_rfl
  have hq : ∀ i y, [y0, y1, y2, y3, y4][i]? = some y → i < 5 → DataW.trod (funcToken Tryd.prog) Tryd.prog W 0 (fun _ => true) true m 86 ((cs.toList.drop (i * 5)).take 5) = some (y.1, y.2) := fun i y hy hi => by
   have := hf i hi
   rw [c86, hy] at this
   exact this
  have h0 := hq 0 _ rfl (by omega); have h1 := hq 1 _ rfl (by omega); have h2 := hq 2 _ rfl (by omega); have h3 := hq 3 _ rfl (by omega); have h4 := hq 4 _ rfl (by omega)
  rw [← e0] at h0; rw [← e1] at h1; rw [← e2] at h2; rw [← e3] at h3; rw [← e4] at h4
  obtain ⟨a0, a1, a2, ⟨_, _, a3⟩, ⟨_, _, a4⟩⟩ := form_row h0
  obtain ⟨b0, b1, b2, ⟨_, _, b3⟩, ⟨_, _, b4⟩⟩ := form_row h1
  obtain ⟨c0, c1, c2, ⟨_, _, c3⟩, ⟨_, _, c4⟩⟩ := form_row h2
  obtain ⟨d0, d1, d2, ⟨_, _, d3⟩, ⟨_, _, d4⟩⟩ := form_row h3
  obtain ⟨g0, g1, g2, ⟨_, _, g3⟩, ⟨_, _, g4⟩⟩ := form_row h4
  have a3' := one_of_drop (nil_of_trod Tryd.underlying83 a3)
  have a4' := one_of_drop (nil_of_trod Tryd.underlying84 a4)
  have b3' := one_of_drop (held_of_trod (f0 := 133) Tryd.underlying83 (by kernel_rfl) b3)
  have b4' := one_of_drop (held_of_trod (f0 := 134) Tryd.underlying84 (by kernel_rfl) b4)
  have c3' := one_of_drop (held_of_trod (f0 := 135) Tryd.underlying83 (by kernel_rfl) c3)
  have c4' := one_of_drop (held_of_trod (f0 := 136) Tryd.underlying84 (by kernel_rfl) c4)
  have d3' := one_of_drop (held_of_trod (f0 := 137) Tryd.underlying83 (by kernel_rfl) d3)
  have d4' := one_of_drop (held_of_trod (f0 := 138) Tryd.underlying84 (by kernel_rfl) d4)
  have g3' := one_of_drop (held_of_trod (f0 := 139) Tryd.underlying83 (by kernel_rfl) g3)
  have g4' := one_of_drop (held_of_trod (f0 := 136) Tryd.underlying84 (by kernel_rfl) g4)
  have hd5 : ∀ (i k : Nat) (v : Value), ((cs.toList.drop (i * 5)).take 5)[k]? = some v → W.cell? ⟨0, i * 5 + k, none⟩ = some v := fun i k v hv => by
   rw [World.var?_cell hg hvar (i * 5 + k), ← Array.getElem?_toList]
   rw [List.getElem?_take] at hv
   split at hv
   · rwa [List.getElem?_drop] at hv
   · cases hv
  intro j v hj
  have hall : ∀ x ∈ ([(0, 0, .bool false), (0, 1, .bool false), (0, 2, .int .i64 0), (0, 3, .nilFunc), (0, 4, .nilFunc), (1, 0, .bool true), (1, 1, .bool false), (1, 2, .int .i64 0), (1, 3, fnV 133), (1, 4, fnV 134), (2, 0, .bool true), (2, 1, .bool true), (2, 2, .int .i64 0), (2, 3, fnV 135), (2, 4, fnV 136), (3, 0, .bool false), (3, 1, .bool false), (3, 2, .int .i64 1), (3, 3, fnV 137), (3, 4, fnV 138), (4, 0, .bool false), (4, 1, .bool true), (4, 2, .int .i64 1), (4, 3, fnV 139), (4, 4, fnV 136)] : List (Nat × Nat × Value)), W.cell? ⟨0, x.1 * 5 + x.2.1, none⟩ = some x.2.2 := by
   intro x hx
   simp only [List.mem_cons, List.not_mem_nil, or_false] at hx
   rcases hx with rfl | rfl | rfl | rfl | rfl | rfl | rfl | rfl | rfl | rfl | rfl | rfl | rfl | rfl | rfl | rfl | rfl | rfl | rfl | rfl | rfl | rfl | rfl | rfl | rfl <;> exact hd5 _ _ _ (by assumption)
  have hlt : j < 25 := (List.getElem?_eq_some_iff.1 hj).1
  simp only [List.forall_mem_cons] at hall
  obtain ⟨q0, q1, q2, q3, q4, q5, q6, q7, q8, q9, r0, r1, r2, r3, r4, r5, r6, r7, r8, r9, s0, s1, s2, s3, s4, _⟩ := hall
  match j, hlt with
  | 0, _ => exact (Option.some.inj hj) ▸ q0
  | 1, _ => exact (Option.some.inj hj) ▸ q1
  | 2, _ => exact (Option.some.inj hj) ▸ q2
  | 3, _ => exact (Option.some.inj hj) ▸ q3
  | 4, _ => exact (Option.some.inj hj) ▸ q4
  | 5, _ => exact (Option.some.inj hj) ▸ q5
  | 6, _ => exact (Option.some.inj hj) ▸ q6
  | 7, _ => exact (Option.some.inj hj) ▸ q7
  | 8, _ => exact (Option.some.inj hj) ▸ q8
  | 9, _ => exact (Option.some.inj hj) ▸ q9
  | 10, _ => exact (Option.some.inj hj) ▸ r0
  | 11, _ => exact (Option.some.inj hj) ▸ r1
  | 12, _ => exact (Option.some.inj hj) ▸ r2
  | 13, _ => exact (Option.some.inj hj) ▸ r3
  | 14, _ => exact (Option.some.inj hj) ▸ r4
  | 15, _ => exact (Option.some.inj hj) ▸ r5
  | 16, _ => exact (Option.some.inj hj) ▸ r6
  | 17, _ => exact (Option.some.inj hj) ▸ r7
  | 18, _ => exact (Option.some.inj hj) ▸ r8
  | 19, _ => exact (Option.some.inj hj) ▸ r9
  | 20, _ => exact (Option.some.inj hj) ▸ s0
  | 21, _ => exact (Option.some.inj hj) ▸ s1
  | 22, _ => exact (Option.some.inj hj) ▸ s2
  | 23, _ => exact (Option.some.inj hj) ▸ s3
  | 24, _ => exact (Option.some.inj hj) ▸ s4
theorem two_of {W : World} (h : laidMetH Tryd.prog [("redraft/utext.bars", Rows.laid_redraft_utext_bars), ("redraft/msg.forms", Rows.laid_redraft_msg_forms)] W) : GW W ∧ GF W := by
 refine ⟨?_, forms_of h (List.mem_cons_of_mem _ List.mem_cons_self)⟩
 obtain ⟨⟨ps, hv, _⟩, _⟩ := (show laidMet Tryd.prog [("redraft/utext.bars", Rows.laid_redraft_utext_bars)] W ∧ _ from h)
 exact bars_of_vars hv
noncomputable def laidWorld (os : Os) : World :=
 let w0 := World.holding Tryd.prog os ⟨#[], #[], []⟩
 { w0 with heap := ((w0.heap.modify 0 fun
  | .cells _ t frozen => .cells formsL.toArray t frozen
  | o => o).modify 1 fun
  | .cells _ t frozen => .cells #[.int .u32 0, .int .u32 274646895, .int .u32 549293790, .int .u32 820201905, .int .u32 1098587580, .int .u32 1361435347, .int .u32 1640403810, .int .u32 1905808397, .int .u32 2197175160, .int .u32 2460548119, .int .u32 2722870694, .int .u32 2987750089, .int .u32 3280807620, .int .u32 3553878443, .int .u32 3811616794, .int .u32 4084100981] t frozen
  | o => o).modify 2 fun
  | .cells _ t frozen => .cells #[.int .i32 0, .int .i32 8, .int .i32 11, .int .i32 31, .int .i32 127, .int .i32 159, .int .i32 64976, .int .i32 65007, .int .i32 65279, .int .i32 65279] t frozen
  | o => o }
end Go.Proofs.YtjnicgfkogfifaaDoor
end

section
/- The bytes that msg.put and msg.putCommand append, as the plain writer has them. -/
namespace Go.Proofs.YtjnicgfkogfifaaDoor
open Go.RowKit Go.Proofs.YtjnicgfkogfifaaDoor.PAll Go.Proofs.YtjnicgfkogfifaaDoorW.PrintWords Go.Proofs.YtjnicgfkogfifaaDoorW.PrintLast

def iB (xs : List UInt8) : List Int := xs.map fun b => (b.toNat : Int)
@[simp] theorem iB_nil : iB [] = [] := rfl
@[simp] theorem iB_length (xs : List UInt8) : (iB xs).length = xs.length := List.length_map _
@[simp] theorem iB_append (xs ys : List UInt8) : iB (xs ++ ys) = iB xs ++ iB ys := List.map_append
theorem or128 : ∀ r : Nat, r < 256 → r ||| 128 = 128 + r % 128 := by decide +kernel
theorem put_byte (m : Nat) : bits .or .u8 ((m : Int) % 256) 128 = (((UInt8.ofNat (128 + m % 128)).toNat : Nat) : Int) := by
 rw [show ((m : Int) % 256) = ((m % 256 : Nat) : Int) by omega, show (128 : Int) = ((128 : Nat) : Int) from rfl, u8_or_nat _ _ (by omega) (by omega), or128 _ (by omega), u8_of _ (by omega)]
 congr 2
 omega
theorem put_l1 (L : List Int) (N i : Int) : ∀ (d m : Nat), m ≤ d → ∀ (x : List Int) (K : Nat), x.length + (encN m).length ≤ 140737488355328 → msg_put.l1 (K + (encN m).length) x (m : Int) L N i = msg_put.l0 K (x ++ iB (encN m)) L N (wrap64 (i + 1)) := by
 intro d
 induction d with
 | zero =>
  intro m hm x K hx
  obtain rfl : m = 0 := by omega
  rw [encN_lt (by omega)] at hx ⊢
  simp only [List.length_cons, List.length_nil] at hx ⊢
  show (if ((0 : Nat) : Int) ≥ 128 then _ else _) = _
  rw [if_neg (by omega), if_pos (by omega)]
  rfl
 | succ d ih =>
  intro m hm x K hx
  by_cases h : m < 128
  · rw [encN_lt h] at hx ⊢
    simp only [List.length_cons, List.length_nil] at hx ⊢
    show (if ((m : Nat) : Int) ≥ 128 then _ else _) = _
    rw [if_neg (by omega), if_pos (by omega)]
    have : (m : Int) % 256 = (((UInt8.ofNat m).toNat : Nat) : Int) := by rw [u8_of _ (by omega)]; omega
    rw [this]
    rfl
  · rw [encN_ge (by omega)] at hx ⊢
    simp only [List.length_cons] at hx ⊢
    rw [← Nat.add_assoc]
    show (if ((m : Nat) : Int) ≥ 128 then _ else _) = _
    rw [if_pos (by omega), if_pos (by have := encN_pos (m / 128); omega), put_byte, show ((m : Int) / 128) = ((m / 128 : Nat) : Int) by omega]
    rw [ih (m / 128) (by omega) _ K (by rw [List.length_append]; simp only [List.length_cons, List.length_nil]; omega)]
    rw [List.append_assoc]
    rfl
abbrev nI (ns : List Nat) : List Int := ns.map fun n : Nat => (n : Int)
def encNs (ns : List Nat) : List UInt8 := ns.flatMap encN
theorem put_l0 (ns : List Nat) (hn : ns.length ≤ 1099511627776) : ∀ (d i : Nat) (x : List Int) (K : Nat), i + d = ns.length → x.length + (encNs (ns.drop i)).length ≤ 140737488355328 →
 msg_put.l0 (K + (encNs (ns.drop i)).length + d + 1) x (nI ns) (ns.length : Int) i = some (x ++ iB (encNs (ns.drop i))) := by
 intro d
 induction d with
 | zero =>
  intro i x K hi hx
  have : ns.drop i = [] := List.drop_eq_nil_of_le (by omega)
  rw [this]
  show (if (i : Int) < (ns.length : Int) then _ else _) = _
  rw [if_neg (by omega)]
  simp [encNs]
 | succ d ih =>
  intro i x K hi hx
  have hlt : i < ns.length := by omega
  rw [List.drop_eq_getElem_cons hlt] at hx ⊢
  have e : encNs (ns[i] :: ns.drop (i + 1)) = encN ns[i] ++ encNs (ns.drop (i + 1)) := List.flatMap_cons
  rw [e, List.length_append] at hx
  rw [e, List.length_append]
  have q1 : (i : Int) < (ns.length : Int) := by omega
  have q2 : (i : Int) < (((nI ns).length : Nat) : Int) := by rw [List.length_map]; omega
  have q3 : rd (nI ns) (i : Int) = ((ns[i] : Nat) : Int) := by
   unfold rd
   rw [Int.toNat_natCast, List.getD_eq_getElem?_getD, List.getElem?_map, List.getElem?_eq_getElem hlt]
   rfl
  have e2 : K + ((encN ns[i]).length + (encNs (ns.drop (i + 1))).length) + (d + 1) + 1 = ((K + (encNs (ns.drop (i + 1))).length + d + 1) + (encN ns[i]).length) + 1 := by omega
  rw [e2]
  show (if (i : Int) < (ns.length : Int) then _ else _) = _
  rw [if_pos q1, if_pos (by omega), if_pos q2, q3, put_l1 _ _ _ _ _ (Nat.le_refl _) x _ (by omega)]
  rw [show wrap64 ((i : Int) + 1) = ((i + 1 : Nat) : Int) by unfold wrap64; omega]
  rw [ih (i + 1) _ K (by omega) (by rw [List.length_append, iB_length]; omega)]
  rw [iB_append, List.append_assoc]
theorem put_is (ns : List Nat) (x : List Int) (K : Nat) (hn : ns.length ≤ 1099511627776) (hx : x.length + (encNs ns).length ≤ 140737488355328) : msg_put.f (K + (encNs ns).length + ns.length + 1) x (nI ns) = some (x ++ iB (encNs ns)) := by
 unfold msg_put.f
 rw [List.length_map]
 exact put_l0 ns hn ns.length 0 x K (by omega) hx
end Go.Proofs.YtjnicgfkogfifaaDoor
end

section
/- msg.check, by its contract: why a message has no bytes. (Printed by tools/gen_mcheck.py.) -/
namespace Go.Proofs.YtjnicgfkogfifaaDoor
open Go.RowKit Go.Proofs.YtjnicgfkogfifaaDoor.PAll Go.Proofs.YtjnicgfkogfifaaDoorW.PrintWords Go.Proofs.YtjnicgfkogfifaaDoorW.PrintLast

structure OpV where
 a : Int
 b : Int
 k : Int
 p : Int
 t : ByteArray
 l : List S54
 x : Int
 y : Int
 on : Bool
abbrev opva (o : OpV) (v : Value) : Array Value := opv o.a o.b o.k o.p o.t v o.x o.y o.on
def OpC (w : World) (v : Value) (o : OpV) : Prop := ∃ A c, v = .slice A o.l.length c ∧ o.l.length ≤ c ∧ k54.C w A o.l.length o.l
theorem OpC.below {w w' : World} {v : Value} {o : OpV} (h : OpC w v o) (hb : Below w.heap.size w w') : OpC w' v o := by
 obtain ⟨A, c, e, h1, h2⟩ := h
 exact ⟨A, c, e, h1, Kd.C_below h2 hb⟩
def EmIs (o : OpV) (em : Bool) : Prop := ∃ K, msg_empty.f K o.a o.b o.k o.p o.t o.l o.x o.y o.on = some em
def ReIs (o : OpV) (re : Int) : Prop := ∃ K, msg_refused.f K o.a o.b o.k o.p o.t o.l o.x o.y o.on = some re
theorem empty_any (o : OpV) (v : Value) (em : Bool) (w : World) (ho : OpC w v o) (h : EmIs o em) : Calls Tryd.prog 47 #[.agg (opva o v)] w fun e w' => e = .returned (.bool em) ∧ Below w.heap.size w w' := by
 obtain ⟨A, c, rfl, h1, h2⟩ := ho
 obtain ⟨K, hK⟩ := h
 exact msg_empty.calls K _ _ _ _ _ A c o.l _ _ _ em w h2 h1 hK
theorem refused_any (o : OpV) (v : Value) (re : Int) (w : World) (hG : GW w) (ho : OpC w v o) (h : ReIs o re) : Calls Tryd.prog 39 #[.agg (opva o v)] w fun e w' => e = .returned (.int .i64 re) ∧ Below w.heap.size w w' := by
 obtain ⟨A, c, rfl, h1, h2⟩ := ho
 obtain ⟨K, hK⟩ := h
 exact msg_refused.calls K _ _ _ _ _ A c o.l _ _ _ re w h2 h1 hG hK
def checkE (k c r q a : Int) (em : Bool) (re : Int) : Int :=
 if k < 1 ∨ 4 < k then 100
 else if c < 1 ∨ 8 < c then 104
 else if k ≠ 3 ∧ q ≠ 0 then 42
 else if (k = 1 ∨ k = 3) ∧ em = false then 42
 else if r < (if k = 3 ∨ k = 4 then 1 else 0) ∨ 8192 < r then 104
 else if k = 3 ∧ (q < 1 ∨ 1024 < q) then 104
 else if k = 1 ∨ k = 3 then 0
 else if re ≠ 0 then re
 else if k = 2 ∧ a ≠ c then 104
 else 0
theorem GF.row {w : World} (h : GF w) (j : Nat) {v0 v1 v2 v3 v4 : Value} (e0 : formsL[j]? = some v0) (e1 : formsL[j + 1]? = some v1) (e2 : formsL[j + 2]? = some v2) (e3 : formsL[j + 3]? = some v3) (e4 : formsL[j + 4]? = some v4) : atL w ⟨0, j, none⟩ 0 [v0, v1, v2, v3, v4] := by
 have q : ∀ n, (⟨0, j, none⟩ : Addr).add n = ⟨0, j + n, none⟩ := fun n => by unfold Addr.add; split <;> simp_all
 refine ⟨?_, ?_, ?_, ?_, ?_, trivial⟩ <;> rw [q] <;> apply h <;> assumption
set_option maxRecDepth 100000 in
set_option maxHeartbeats 8000000 in
theorem check_1 (w : World) (k c r q : Int) (o : OpV) (v : Value) (em : Bool) (re : Int) (hk : k < 1 ∨ 4 < k) :
 Calls Tryd.prog 33 #[.agg (mcells k c r q (opva o v))] w fun e w' => e = .returned (.int .i64 (checkE k c r q o.a em re)) ∧ Below w.heap.size w w' := by
 have S := Aside0.mk (St.init w (F := fun _ => True) (fun _ _ => trivial))
 have HC := Aside0.mk (show checkE k c r q o.a em re = 100 by unfold checkE; rw [if_pos hk])
 by_cases h1 : k < 1
 · replace h1 := decide_eq_true h1
   clear hk
   go_enter Tryd.func33, Tryd.ntmps33
   go_wp2_with (first | ((with_reducible refine gate_box rfl ?_); refine ev_box S ?_; clear S; intro gm _ S) | ((with_reducible refine gate_load rfl ?_); first | refine ev_load S ?_ | refine ev_fld S ?_))
   go_ret
   exact ⟨by rw [HC.out]; rfl, S.out.below⟩
 · have h2 : decide (4 < k) = true := decide_eq_true (by omega)
   replace h1 := decide_eq_false h1
   clear hk
   go_enter Tryd.func33, Tryd.ntmps33
   go_wp2_with (first | ((with_reducible refine gate_box rfl ?_); refine ev_box S ?_; clear S; intro gm _ S) | ((with_reducible refine gate_load rfl ?_); first | refine ev_load S ?_ | refine ev_fld S ?_))
   go_ret
   exact ⟨by rw [HC.out]; rfl, S.out.below⟩
set_option maxRecDepth 100000 in
set_option maxHeartbeats 8000000 in
theorem check_hello (w : World) (c r q : Int) (o : OpV) (v : Value) (em : Bool) (re : Int) (hT : GF w) (hG : GW w) (ho : OpC w v o) (hem : EmIs o em) :
 Calls Tryd.prog 33 #[.agg (mcells 1 c r q (opva o v))] w fun e w' => e = .returned (.int .i64 (checkE 1 c r q o.a em re)) ∧ Below w.heap.size w w' := by
 have S := Aside0.mk (St.init w (F := fun _ => True) (fun _ _ => trivial))
 have HT := Aside0.mk hT; have HG := Aside0.mk hG; have HO := Aside0.mk ho; have HEM := Aside0.mk hem
 clear hT hG ho hem
 obtain ⟨z, hz⟩ : ∃ z, z = checkE 1 c r q o.a em re := ⟨_, rfl⟩
 rw [← hz]
 unfold checkE at hz
 rw [if_neg (by omega)] at hz
 by_cases c1 : c < 1
 · rw [if_pos (.inl c1)] at hz
   replace c1 := decide_eq_true c1
   have HC := Aside0.mk hz
   clear hz
   go_enter Tryd.func33, Tryd.ntmps33; go_wp2_with (first | ((with_reducible refine gate_box rfl ?_); refine ev_box S ?_; clear S; intro gm _ S) | ((with_reducible refine gate_load rfl ?_); first | refine ev_load S ?_ | refine ev_fld S ?_) | ((with_reducible refine gate_load rfl ?_); refine ev_ext _ ((HT.out.below S.out.below).row 5 rfl rfl rfl rfl rfl) ?_) | ((with_reducible refine gate_new rfl ?_); refine ev_new S 86 #[.bool false, .bool false, .int .i64 0, .nilFunc, .nilFunc] ?_; clear S; intro gf _ S) | ((with_reducible refine gate_st rfl ?_); refine ev_store S ?_; clear S; intro _ S) | (go_at_call 47; refine (empty_any o v _ _ (HO.out.below S.out.below) HEM.out).mono ?_; rintro e_ w7 ⟨rfl, hb_⟩; replace S := Aside0.mk (S.out.step hb_); clear hb_) | (go_at_call 39; refine (refused_any o v _ _ (HG.out.below S.out.below) (HO.out.below S.out.below) HRE.out).mono ?_; rintro e_ w7 ⟨rfl, hb_⟩; replace S := Aside0.mk (S.out.step hb_); clear hb_)); (try simp only [Exit.inBlock, Exit.then]); refine ⟨rfl, _, results_tmp (t := 2) rfl _ _ _, ?_⟩; exact ⟨by rw [HC.out]; rfl, S.out.below⟩
 · skip
   by_cases c2 : 8 < c
   · rw [if_pos (.inr c2)] at hz
     replace c1 := decide_eq_false c1
     replace c2 := decide_eq_true c2
     have HC := Aside0.mk hz
     clear hz
     go_enter Tryd.func33, Tryd.ntmps33; go_wp2_with (first | ((with_reducible refine gate_box rfl ?_); refine ev_box S ?_; clear S; intro gm _ S) | ((with_reducible refine gate_load rfl ?_); first | refine ev_load S ?_ | refine ev_fld S ?_) | ((with_reducible refine gate_load rfl ?_); refine ev_ext _ ((HT.out.below S.out.below).row 5 rfl rfl rfl rfl rfl) ?_) | ((with_reducible refine gate_new rfl ?_); refine ev_new S 86 #[.bool false, .bool false, .int .i64 0, .nilFunc, .nilFunc] ?_; clear S; intro gf _ S) | ((with_reducible refine gate_st rfl ?_); refine ev_store S ?_; clear S; intro _ S) | (go_at_call 47; refine (empty_any o v _ _ (HO.out.below S.out.below) HEM.out).mono ?_; rintro e_ w7 ⟨rfl, hb_⟩; replace S := Aside0.mk (S.out.step hb_); clear hb_) | (go_at_call 39; refine (refused_any o v _ _ (HG.out.below S.out.below) (HO.out.below S.out.below) HRE.out).mono ?_; rintro e_ w7 ⟨rfl, hb_⟩; replace S := Aside0.mk (S.out.step hb_); clear hb_)); (try simp only [Exit.inBlock, Exit.then]); refine ⟨rfl, _, results_tmp (t := 2) rfl _ _ _, ?_⟩; exact ⟨by rw [HC.out]; rfl, S.out.below⟩
   · rw [if_neg (by omega)] at hz
     replace c1 := decide_eq_false c1
     replace c2 := decide_eq_false c2
     by_cases c3 : q ≠ 0
     · rw [if_pos ⟨by omega, c3⟩] at hz
       replace c3 : (q != 0) = true := bne_iff_ne.mpr c3
       have HC := Aside0.mk hz
       clear hz
       go_enter Tryd.func33, Tryd.ntmps33; go_wp2_with (first | ((with_reducible refine gate_box rfl ?_); refine ev_box S ?_; clear S; intro gm _ S) | ((with_reducible refine gate_load rfl ?_); first | refine ev_load S ?_ | refine ev_fld S ?_) | ((with_reducible refine gate_load rfl ?_); refine ev_ext _ ((HT.out.below S.out.below).row 5 rfl rfl rfl rfl rfl) ?_) | ((with_reducible refine gate_new rfl ?_); refine ev_new S 86 #[.bool false, .bool false, .int .i64 0, .nilFunc, .nilFunc] ?_; clear S; intro gf _ S) | ((with_reducible refine gate_st rfl ?_); refine ev_store S ?_; clear S; intro _ S) | (go_at_call 47; refine (empty_any o v _ _ (HO.out.below S.out.below) HEM.out).mono ?_; rintro e_ w7 ⟨rfl, hb_⟩; replace S := Aside0.mk (S.out.step hb_); clear hb_) | (go_at_call 39; refine (refused_any o v _ _ (HG.out.below S.out.below) (HO.out.below S.out.below) HRE.out).mono ?_; rintro e_ w7 ⟨rfl, hb_⟩; replace S := Aside0.mk (S.out.step hb_); clear hb_)); (try simp only [Exit.inBlock, Exit.then]); refine ⟨rfl, _, results_tmp (t := 2) rfl _ _ _, ?_⟩; exact ⟨by rw [HC.out]; rfl, S.out.below⟩
     · rw [if_neg (by omega)] at hz
       replace c3 : q = 0 := Decidable.of_not_not c3
       subst c3
       by_cases c4 : em = false
       · rw [if_pos ⟨by omega, c4⟩] at hz
         subst c4
         have HC := Aside0.mk hz
         clear hz
         go_enter Tryd.func33, Tryd.ntmps33; go_wp2_with (first | ((with_reducible refine gate_box rfl ?_); refine ev_box S ?_; clear S; intro gm _ S) | ((with_reducible refine gate_load rfl ?_); first | refine ev_load S ?_ | refine ev_fld S ?_) | ((with_reducible refine gate_load rfl ?_); refine ev_ext _ ((HT.out.below S.out.below).row 5 rfl rfl rfl rfl rfl) ?_) | ((with_reducible refine gate_new rfl ?_); refine ev_new S 86 #[.bool false, .bool false, .int .i64 0, .nilFunc, .nilFunc] ?_; clear S; intro gf _ S) | ((with_reducible refine gate_st rfl ?_); refine ev_store S ?_; clear S; intro _ S) | (go_at_call 47; refine (empty_any o v _ _ (HO.out.below S.out.below) HEM.out).mono ?_; rintro e_ w7 ⟨rfl, hb_⟩; replace S := Aside0.mk (S.out.step hb_); clear hb_) | (go_at_call 39; refine (refused_any o v _ _ (HG.out.below S.out.below) (HO.out.below S.out.below) HRE.out).mono ?_; rintro e_ w7 ⟨rfl, hb_⟩; replace S := Aside0.mk (S.out.step hb_); clear hb_)); (try simp only [Exit.inBlock, Exit.then]); refine ⟨rfl, _, results_tmp (t := 2) rfl _ _ _, ?_⟩; exact ⟨by rw [HC.out]; rfl, S.out.below⟩
       · rw [if_neg (fun h => c4 h.2)] at hz
         replace c4 : em = true := by simpa using c4
         subst c4
         rw [show (if (1 : Int) = 3 ∨ (1 : Int) = 4 then (1 : Int) else 0) = 0 from rfl] at hz
         by_cases c5 : r < 0
         · rw [if_pos (.inl c5)] at hz
           replace c5 := decide_eq_true c5
           have HC := Aside0.mk hz
           clear hz
           go_enter Tryd.func33, Tryd.ntmps33; go_wp2_with (first | ((with_reducible refine gate_box rfl ?_); refine ev_box S ?_; clear S; intro gm _ S) | ((with_reducible refine gate_load rfl ?_); first | refine ev_load S ?_ | refine ev_fld S ?_) | ((with_reducible refine gate_load rfl ?_); refine ev_ext _ ((HT.out.below S.out.below).row 5 rfl rfl rfl rfl rfl) ?_) | ((with_reducible refine gate_new rfl ?_); refine ev_new S 86 #[.bool false, .bool false, .int .i64 0, .nilFunc, .nilFunc] ?_; clear S; intro gf _ S) | ((with_reducible refine gate_st rfl ?_); refine ev_store S ?_; clear S; intro _ S) | (go_at_call 47; refine (empty_any o v _ _ (HO.out.below S.out.below) HEM.out).mono ?_; rintro e_ w7 ⟨rfl, hb_⟩; replace S := Aside0.mk (S.out.step hb_); clear hb_) | (go_at_call 39; refine (refused_any o v _ _ (HG.out.below S.out.below) (HO.out.below S.out.below) HRE.out).mono ?_; rintro e_ w7 ⟨rfl, hb_⟩; replace S := Aside0.mk (S.out.step hb_); clear hb_)); (try simp only [Exit.inBlock, Exit.then]); refine ⟨rfl, _, results_tmp (t := 2) rfl _ _ _, ?_⟩; exact ⟨by rw [HC.out]; rfl, S.out.below⟩
         · skip
           by_cases c6 : 8192 < r
           · rw [if_pos (.inr c6)] at hz
             replace c5 := decide_eq_false c5
             replace c6 := decide_eq_true c6
             have HC := Aside0.mk hz
             clear hz
             go_enter Tryd.func33, Tryd.ntmps33; go_wp2_with (first | ((with_reducible refine gate_box rfl ?_); refine ev_box S ?_; clear S; intro gm _ S) | ((with_reducible refine gate_load rfl ?_); first | refine ev_load S ?_ | refine ev_fld S ?_) | ((with_reducible refine gate_load rfl ?_); refine ev_ext _ ((HT.out.below S.out.below).row 5 rfl rfl rfl rfl rfl) ?_) | ((with_reducible refine gate_new rfl ?_); refine ev_new S 86 #[.bool false, .bool false, .int .i64 0, .nilFunc, .nilFunc] ?_; clear S; intro gf _ S) | ((with_reducible refine gate_st rfl ?_); refine ev_store S ?_; clear S; intro _ S) | (go_at_call 47; refine (empty_any o v _ _ (HO.out.below S.out.below) HEM.out).mono ?_; rintro e_ w7 ⟨rfl, hb_⟩; replace S := Aside0.mk (S.out.step hb_); clear hb_) | (go_at_call 39; refine (refused_any o v _ _ (HG.out.below S.out.below) (HO.out.below S.out.below) HRE.out).mono ?_; rintro e_ w7 ⟨rfl, hb_⟩; replace S := Aside0.mk (S.out.step hb_); clear hb_)); (try simp only [Exit.inBlock, Exit.then]); refine ⟨rfl, _, results_tmp (t := 2) rfl _ _ _, ?_⟩; exact ⟨by rw [HC.out]; rfl, S.out.below⟩
           · rw [if_neg (by omega)] at hz
             replace c5 := decide_eq_false c5
             replace c6 := decide_eq_false c6
             rw [if_neg (by omega)] at hz
             rw [if_pos (by omega)] at hz
             have HC := Aside0.mk hz
             clear hz
             go_enter Tryd.func33, Tryd.ntmps33; go_wp2_with (first | ((with_reducible refine gate_box rfl ?_); refine ev_box S ?_; clear S; intro gm _ S) | ((with_reducible refine gate_load rfl ?_); first | refine ev_load S ?_ | refine ev_fld S ?_) | ((with_reducible refine gate_load rfl ?_); refine ev_ext _ ((HT.out.below S.out.below).row 5 rfl rfl rfl rfl rfl) ?_) | ((with_reducible refine gate_new rfl ?_); refine ev_new S 86 #[.bool false, .bool false, .int .i64 0, .nilFunc, .nilFunc] ?_; clear S; intro gf _ S) | ((with_reducible refine gate_st rfl ?_); refine ev_store S ?_; clear S; intro _ S) | (go_at_call 47; refine (empty_any o v _ _ (HO.out.below S.out.below) HEM.out).mono ?_; rintro e_ w7 ⟨rfl, hb_⟩; replace S := Aside0.mk (S.out.step hb_); clear hb_) | (go_at_call 39; refine (refused_any o v _ _ (HG.out.below S.out.below) (HO.out.below S.out.below) HRE.out).mono ?_; rintro e_ w7 ⟨rfl, hb_⟩; replace S := Aside0.mk (S.out.step hb_); clear hb_)); (try simp only [Exit.inBlock, Exit.then]); refine ⟨rfl, _, results_tmp (t := 2) rfl _ _ _, ?_⟩; exact ⟨by rw [HC.out]; rfl, S.out.below⟩
set_option maxRecDepth 100000 in
set_option maxHeartbeats 8000000 in
theorem check_submit (w : World) (c r q : Int) (o : OpV) (v : Value) (em : Bool) (re : Int) (hT : GF w) (hG : GW w) (ho : OpC w v o) (hem : EmIs o em) (hre : ReIs o re) :
 Calls Tryd.prog 33 #[.agg (mcells 2 c r q (opva o v))] w fun e w' => e = .returned (.int .i64 (checkE 2 c r q o.a em re)) ∧ Below w.heap.size w w' := by
 have S := Aside0.mk (St.init w (F := fun _ => True) (fun _ _ => trivial))
 have HT := Aside0.mk hT; have HG := Aside0.mk hG; have HO := Aside0.mk ho; have HEM := Aside0.mk hem
 have HRE := Aside0.mk hre
 clear hre
 clear hT hG ho hem
 obtain ⟨z, hz⟩ : ∃ z, z = checkE 2 c r q o.a em re := ⟨_, rfl⟩
 rw [← hz]
 unfold checkE at hz
 rw [if_neg (by omega)] at hz
 by_cases c1 : c < 1
 · rw [if_pos (.inl c1)] at hz
   replace c1 := decide_eq_true c1
   have HC := Aside0.mk hz
   clear hz
   go_enter Tryd.func33, Tryd.ntmps33; go_wp2_with (first | ((with_reducible refine gate_box rfl ?_); refine ev_box S ?_; clear S; intro gm _ S) | ((with_reducible refine gate_load rfl ?_); first | refine ev_load S ?_ | refine ev_fld S ?_) | ((with_reducible refine gate_load rfl ?_); refine ev_ext _ ((HT.out.below S.out.below).row 10 rfl rfl rfl rfl rfl) ?_) | ((with_reducible refine gate_new rfl ?_); refine ev_new S 86 #[.bool false, .bool false, .int .i64 0, .nilFunc, .nilFunc] ?_; clear S; intro gf _ S) | ((with_reducible refine gate_st rfl ?_); refine ev_store S ?_; clear S; intro _ S) | (go_at_call 47; refine (empty_any o v _ _ (HO.out.below S.out.below) HEM.out).mono ?_; rintro e_ w7 ⟨rfl, hb_⟩; replace S := Aside0.mk (S.out.step hb_); clear hb_) | (go_at_call 39; refine (refused_any o v _ _ (HG.out.below S.out.below) (HO.out.below S.out.below) HRE.out).mono ?_; rintro e_ w7 ⟨rfl, hb_⟩; replace S := Aside0.mk (S.out.step hb_); clear hb_)); (try simp only [Exit.inBlock, Exit.then]); refine ⟨rfl, _, results_tmp (t := 2) rfl _ _ _, ?_⟩; exact ⟨by rw [HC.out]; rfl, S.out.below⟩
 · skip
   by_cases c2 : 8 < c
   · rw [if_pos (.inr c2)] at hz
     replace c1 := decide_eq_false c1
     replace c2 := decide_eq_true c2
     have HC := Aside0.mk hz
     clear hz
     go_enter Tryd.func33, Tryd.ntmps33; go_wp2_with (first | ((with_reducible refine gate_box rfl ?_); refine ev_box S ?_; clear S; intro gm _ S) | ((with_reducible refine gate_load rfl ?_); first | refine ev_load S ?_ | refine ev_fld S ?_) | ((with_reducible refine gate_load rfl ?_); refine ev_ext _ ((HT.out.below S.out.below).row 10 rfl rfl rfl rfl rfl) ?_) | ((with_reducible refine gate_new rfl ?_); refine ev_new S 86 #[.bool false, .bool false, .int .i64 0, .nilFunc, .nilFunc] ?_; clear S; intro gf _ S) | ((with_reducible refine gate_st rfl ?_); refine ev_store S ?_; clear S; intro _ S) | (go_at_call 47; refine (empty_any o v _ _ (HO.out.below S.out.below) HEM.out).mono ?_; rintro e_ w7 ⟨rfl, hb_⟩; replace S := Aside0.mk (S.out.step hb_); clear hb_) | (go_at_call 39; refine (refused_any o v _ _ (HG.out.below S.out.below) (HO.out.below S.out.below) HRE.out).mono ?_; rintro e_ w7 ⟨rfl, hb_⟩; replace S := Aside0.mk (S.out.step hb_); clear hb_)); (try simp only [Exit.inBlock, Exit.then]); refine ⟨rfl, _, results_tmp (t := 2) rfl _ _ _, ?_⟩; exact ⟨by rw [HC.out]; rfl, S.out.below⟩
   · rw [if_neg (by omega)] at hz
     replace c1 := decide_eq_false c1
     replace c2 := decide_eq_false c2
     by_cases c3 : q ≠ 0
     · rw [if_pos ⟨by omega, c3⟩] at hz
       replace c3 : (q != 0) = true := bne_iff_ne.mpr c3
       have HC := Aside0.mk hz
       clear hz
       go_enter Tryd.func33, Tryd.ntmps33; go_wp2_with (first | ((with_reducible refine gate_box rfl ?_); refine ev_box S ?_; clear S; intro gm _ S) | ((with_reducible refine gate_load rfl ?_); first | refine ev_load S ?_ | refine ev_fld S ?_) | ((with_reducible refine gate_load rfl ?_); refine ev_ext _ ((HT.out.below S.out.below).row 10 rfl rfl rfl rfl rfl) ?_) | ((with_reducible refine gate_new rfl ?_); refine ev_new S 86 #[.bool false, .bool false, .int .i64 0, .nilFunc, .nilFunc] ?_; clear S; intro gf _ S) | ((with_reducible refine gate_st rfl ?_); refine ev_store S ?_; clear S; intro _ S) | (go_at_call 47; refine (empty_any o v _ _ (HO.out.below S.out.below) HEM.out).mono ?_; rintro e_ w7 ⟨rfl, hb_⟩; replace S := Aside0.mk (S.out.step hb_); clear hb_) | (go_at_call 39; refine (refused_any o v _ _ (HG.out.below S.out.below) (HO.out.below S.out.below) HRE.out).mono ?_; rintro e_ w7 ⟨rfl, hb_⟩; replace S := Aside0.mk (S.out.step hb_); clear hb_)); (try simp only [Exit.inBlock, Exit.then]); refine ⟨rfl, _, results_tmp (t := 2) rfl _ _ _, ?_⟩; exact ⟨by rw [HC.out]; rfl, S.out.below⟩
     · rw [if_neg (by omega)] at hz
       replace c3 : q = 0 := Decidable.of_not_not c3
       subst c3
       rw [if_neg (by omega)] at hz
       rw [show (if (2 : Int) = 3 ∨ (2 : Int) = 4 then (1 : Int) else 0) = 0 from rfl] at hz
       by_cases c5 : r < 0
       · rw [if_pos (.inl c5)] at hz
         replace c5 := decide_eq_true c5
         have HC := Aside0.mk hz
         clear hz
         go_enter Tryd.func33, Tryd.ntmps33; go_wp2_with (first | ((with_reducible refine gate_box rfl ?_); refine ev_box S ?_; clear S; intro gm _ S) | ((with_reducible refine gate_load rfl ?_); first | refine ev_load S ?_ | refine ev_fld S ?_) | ((with_reducible refine gate_load rfl ?_); refine ev_ext _ ((HT.out.below S.out.below).row 10 rfl rfl rfl rfl rfl) ?_) | ((with_reducible refine gate_new rfl ?_); refine ev_new S 86 #[.bool false, .bool false, .int .i64 0, .nilFunc, .nilFunc] ?_; clear S; intro gf _ S) | ((with_reducible refine gate_st rfl ?_); refine ev_store S ?_; clear S; intro _ S) | (go_at_call 47; refine (empty_any o v _ _ (HO.out.below S.out.below) HEM.out).mono ?_; rintro e_ w7 ⟨rfl, hb_⟩; replace S := Aside0.mk (S.out.step hb_); clear hb_) | (go_at_call 39; refine (refused_any o v _ _ (HG.out.below S.out.below) (HO.out.below S.out.below) HRE.out).mono ?_; rintro e_ w7 ⟨rfl, hb_⟩; replace S := Aside0.mk (S.out.step hb_); clear hb_)); (try simp only [Exit.inBlock, Exit.then]); refine ⟨rfl, _, results_tmp (t := 2) rfl _ _ _, ?_⟩; exact ⟨by rw [HC.out]; rfl, S.out.below⟩
       · skip
         by_cases c6 : 8192 < r
         · rw [if_pos (.inr c6)] at hz
           replace c5 := decide_eq_false c5
           replace c6 := decide_eq_true c6
           have HC := Aside0.mk hz
           clear hz
           go_enter Tryd.func33, Tryd.ntmps33; go_wp2_with (first | ((with_reducible refine gate_box rfl ?_); refine ev_box S ?_; clear S; intro gm _ S) | ((with_reducible refine gate_load rfl ?_); first | refine ev_load S ?_ | refine ev_fld S ?_) | ((with_reducible refine gate_load rfl ?_); refine ev_ext _ ((HT.out.below S.out.below).row 10 rfl rfl rfl rfl rfl) ?_) | ((with_reducible refine gate_new rfl ?_); refine ev_new S 86 #[.bool false, .bool false, .int .i64 0, .nilFunc, .nilFunc] ?_; clear S; intro gf _ S) | ((with_reducible refine gate_st rfl ?_); refine ev_store S ?_; clear S; intro _ S) | (go_at_call 47; refine (empty_any o v _ _ (HO.out.below S.out.below) HEM.out).mono ?_; rintro e_ w7 ⟨rfl, hb_⟩; replace S := Aside0.mk (S.out.step hb_); clear hb_) | (go_at_call 39; refine (refused_any o v _ _ (HG.out.below S.out.below) (HO.out.below S.out.below) HRE.out).mono ?_; rintro e_ w7 ⟨rfl, hb_⟩; replace S := Aside0.mk (S.out.step hb_); clear hb_)); (try simp only [Exit.inBlock, Exit.then]); refine ⟨rfl, _, results_tmp (t := 2) rfl _ _ _, ?_⟩; exact ⟨by rw [HC.out]; rfl, S.out.below⟩
         · rw [if_neg (by omega)] at hz
           replace c5 := decide_eq_false c5
           replace c6 := decide_eq_false c6
           rw [if_neg (by omega)] at hz
           rw [if_neg (by omega)] at hz
           by_cases c9 : re ≠ 0
           · rw [if_pos c9] at hz
             replace c9 : (re != 0) = true := bne_iff_ne.mpr c9
             have HC := Aside0.mk hz
             clear hz
             go_enter Tryd.func33, Tryd.ntmps33; go_wp2_with (first | ((with_reducible refine gate_box rfl ?_); refine ev_box S ?_; clear S; intro gm _ S) | ((with_reducible refine gate_load rfl ?_); first | refine ev_load S ?_ | refine ev_fld S ?_) | ((with_reducible refine gate_load rfl ?_); refine ev_ext _ ((HT.out.below S.out.below).row 10 rfl rfl rfl rfl rfl) ?_) | ((with_reducible refine gate_new rfl ?_); refine ev_new S 86 #[.bool false, .bool false, .int .i64 0, .nilFunc, .nilFunc] ?_; clear S; intro gf _ S) | ((with_reducible refine gate_st rfl ?_); refine ev_store S ?_; clear S; intro _ S) | (go_at_call 47; refine (empty_any o v _ _ (HO.out.below S.out.below) HEM.out).mono ?_; rintro e_ w7 ⟨rfl, hb_⟩; replace S := Aside0.mk (S.out.step hb_); clear hb_) | (go_at_call 39; refine (refused_any o v _ _ (HG.out.below S.out.below) (HO.out.below S.out.below) HRE.out).mono ?_; rintro e_ w7 ⟨rfl, hb_⟩; replace S := Aside0.mk (S.out.step hb_); clear hb_)); (try simp only [Exit.inBlock, Exit.then]); refine ⟨rfl, _, results_tmp (t := 2) rfl _ _ _, ?_⟩; exact ⟨by rw [HC.out]; rfl, S.out.below⟩
           · rw [if_neg c9] at hz
             replace c9 : re = 0 := Decidable.of_not_not c9
             subst c9
             by_cases d1 : o.a ≠ c
             · rw [if_pos ⟨rfl, d1⟩] at hz
               replace d1 : (o.a != c) = true := bne_iff_ne.mpr d1
               have HC := Aside0.mk hz
               clear hz
               go_enter Tryd.func33, Tryd.ntmps33; go_wp2_with (first | ((with_reducible refine gate_box rfl ?_); refine ev_box S ?_; clear S; intro gm _ S) | ((with_reducible refine gate_load rfl ?_); first | refine ev_load S ?_ | refine ev_fld S ?_) | ((with_reducible refine gate_load rfl ?_); refine ev_ext _ ((HT.out.below S.out.below).row 10 rfl rfl rfl rfl rfl) ?_) | ((with_reducible refine gate_new rfl ?_); refine ev_new S 86 #[.bool false, .bool false, .int .i64 0, .nilFunc, .nilFunc] ?_; clear S; intro gf _ S) | ((with_reducible refine gate_st rfl ?_); refine ev_store S ?_; clear S; intro _ S) | (go_at_call 47; refine (empty_any o v _ _ (HO.out.below S.out.below) HEM.out).mono ?_; rintro e_ w7 ⟨rfl, hb_⟩; replace S := Aside0.mk (S.out.step hb_); clear hb_) | (go_at_call 39; refine (refused_any o v _ _ (HG.out.below S.out.below) (HO.out.below S.out.below) HRE.out).mono ?_; rintro e_ w7 ⟨rfl, hb_⟩; replace S := Aside0.mk (S.out.step hb_); clear hb_)); (try simp only [Exit.inBlock, Exit.then]); refine ⟨rfl, _, results_tmp (t := 2) rfl _ _ _, ?_⟩; exact ⟨by rw [HC.out]; rfl, S.out.below⟩
             · rw [if_neg (fun h => d1 h.2)] at hz
               replace d1 : (o.a != c) = false := bne_eq_false_iff_eq.mpr (Decidable.of_not_not d1)
               have HC := Aside0.mk hz
               clear hz
               go_enter Tryd.func33, Tryd.ntmps33; go_wp2_with (first | ((with_reducible refine gate_box rfl ?_); refine ev_box S ?_; clear S; intro gm _ S) | ((with_reducible refine gate_load rfl ?_); first | refine ev_load S ?_ | refine ev_fld S ?_) | ((with_reducible refine gate_load rfl ?_); refine ev_ext _ ((HT.out.below S.out.below).row 10 rfl rfl rfl rfl rfl) ?_) | ((with_reducible refine gate_new rfl ?_); refine ev_new S 86 #[.bool false, .bool false, .int .i64 0, .nilFunc, .nilFunc] ?_; clear S; intro gf _ S) | ((with_reducible refine gate_st rfl ?_); refine ev_store S ?_; clear S; intro _ S) | (go_at_call 47; refine (empty_any o v _ _ (HO.out.below S.out.below) HEM.out).mono ?_; rintro e_ w7 ⟨rfl, hb_⟩; replace S := Aside0.mk (S.out.step hb_); clear hb_) | (go_at_call 39; refine (refused_any o v _ _ (HG.out.below S.out.below) (HO.out.below S.out.below) HRE.out).mono ?_; rintro e_ w7 ⟨rfl, hb_⟩; replace S := Aside0.mk (S.out.step hb_); clear hb_)); (try simp only [Exit.inBlock, Exit.then]); refine ⟨rfl, _, results_tmp (t := 2) rfl _ _ _, ?_⟩; exact ⟨by rw [HC.out]; rfl, S.out.below⟩
set_option maxRecDepth 100000 in
set_option maxHeartbeats 8000000 in
theorem check_ack (w : World) (c r q : Int) (o : OpV) (v : Value) (em : Bool) (re : Int) (hT : GF w) (hG : GW w) (ho : OpC w v o) (hem : EmIs o em) :
 Calls Tryd.prog 33 #[.agg (mcells 3 c r q (opva o v))] w fun e w' => e = .returned (.int .i64 (checkE 3 c r q o.a em re)) ∧ Below w.heap.size w w' := by
 have S := Aside0.mk (St.init w (F := fun _ => True) (fun _ _ => trivial))
 have HT := Aside0.mk hT; have HG := Aside0.mk hG; have HO := Aside0.mk ho; have HEM := Aside0.mk hem
 clear hT hG ho hem
 obtain ⟨z, hz⟩ : ∃ z, z = checkE 3 c r q o.a em re := ⟨_, rfl⟩
 rw [← hz]
 unfold checkE at hz
 rw [if_neg (by omega)] at hz
 by_cases c1 : c < 1
 · rw [if_pos (.inl c1)] at hz
   replace c1 := decide_eq_true c1
   have HC := Aside0.mk hz
   clear hz
   go_enter Tryd.func33, Tryd.ntmps33; go_wp2_with (first | ((with_reducible refine gate_box rfl ?_); refine ev_box S ?_; clear S; intro gm _ S) | ((with_reducible refine gate_load rfl ?_); first | refine ev_load S ?_ | refine ev_fld S ?_) | ((with_reducible refine gate_load rfl ?_); refine ev_ext _ ((HT.out.below S.out.below).row 15 rfl rfl rfl rfl rfl) ?_) | ((with_reducible refine gate_new rfl ?_); refine ev_new S 86 #[.bool false, .bool false, .int .i64 0, .nilFunc, .nilFunc] ?_; clear S; intro gf _ S) | ((with_reducible refine gate_st rfl ?_); refine ev_store S ?_; clear S; intro _ S) | (go_at_call 47; refine (empty_any o v _ _ (HO.out.below S.out.below) HEM.out).mono ?_; rintro e_ w7 ⟨rfl, hb_⟩; replace S := Aside0.mk (S.out.step hb_); clear hb_) | (go_at_call 39; refine (refused_any o v _ _ (HG.out.below S.out.below) (HO.out.below S.out.below) HRE.out).mono ?_; rintro e_ w7 ⟨rfl, hb_⟩; replace S := Aside0.mk (S.out.step hb_); clear hb_)); (try simp only [Exit.inBlock, Exit.then]); refine ⟨rfl, _, results_tmp (t := 2) rfl _ _ _, ?_⟩; exact ⟨by rw [HC.out]; rfl, S.out.below⟩
 · skip
   by_cases c2 : 8 < c
   · rw [if_pos (.inr c2)] at hz
     replace c1 := decide_eq_false c1
     replace c2 := decide_eq_true c2
     have HC := Aside0.mk hz
     clear hz
     go_enter Tryd.func33, Tryd.ntmps33; go_wp2_with (first | ((with_reducible refine gate_box rfl ?_); refine ev_box S ?_; clear S; intro gm _ S) | ((with_reducible refine gate_load rfl ?_); first | refine ev_load S ?_ | refine ev_fld S ?_) | ((with_reducible refine gate_load rfl ?_); refine ev_ext _ ((HT.out.below S.out.below).row 15 rfl rfl rfl rfl rfl) ?_) | ((with_reducible refine gate_new rfl ?_); refine ev_new S 86 #[.bool false, .bool false, .int .i64 0, .nilFunc, .nilFunc] ?_; clear S; intro gf _ S) | ((with_reducible refine gate_st rfl ?_); refine ev_store S ?_; clear S; intro _ S) | (go_at_call 47; refine (empty_any o v _ _ (HO.out.below S.out.below) HEM.out).mono ?_; rintro e_ w7 ⟨rfl, hb_⟩; replace S := Aside0.mk (S.out.step hb_); clear hb_) | (go_at_call 39; refine (refused_any o v _ _ (HG.out.below S.out.below) (HO.out.below S.out.below) HRE.out).mono ?_; rintro e_ w7 ⟨rfl, hb_⟩; replace S := Aside0.mk (S.out.step hb_); clear hb_)); (try simp only [Exit.inBlock, Exit.then]); refine ⟨rfl, _, results_tmp (t := 2) rfl _ _ _, ?_⟩; exact ⟨by rw [HC.out]; rfl, S.out.below⟩
   · rw [if_neg (by omega)] at hz
     replace c1 := decide_eq_false c1
     replace c2 := decide_eq_false c2
     rw [if_neg (by omega)] at hz
     by_cases c4 : em = false
     · rw [if_pos ⟨by omega, c4⟩] at hz
       subst c4
       have HC := Aside0.mk hz
       clear hz
       go_enter Tryd.func33, Tryd.ntmps33; go_wp2_with (first | ((with_reducible refine gate_box rfl ?_); refine ev_box S ?_; clear S; intro gm _ S) | ((with_reducible refine gate_load rfl ?_); first | refine ev_load S ?_ | refine ev_fld S ?_) | ((with_reducible refine gate_load rfl ?_); refine ev_ext _ ((HT.out.below S.out.below).row 15 rfl rfl rfl rfl rfl) ?_) | ((with_reducible refine gate_new rfl ?_); refine ev_new S 86 #[.bool false, .bool false, .int .i64 0, .nilFunc, .nilFunc] ?_; clear S; intro gf _ S) | ((with_reducible refine gate_st rfl ?_); refine ev_store S ?_; clear S; intro _ S) | (go_at_call 47; refine (empty_any o v _ _ (HO.out.below S.out.below) HEM.out).mono ?_; rintro e_ w7 ⟨rfl, hb_⟩; replace S := Aside0.mk (S.out.step hb_); clear hb_) | (go_at_call 39; refine (refused_any o v _ _ (HG.out.below S.out.below) (HO.out.below S.out.below) HRE.out).mono ?_; rintro e_ w7 ⟨rfl, hb_⟩; replace S := Aside0.mk (S.out.step hb_); clear hb_)); (try simp only [Exit.inBlock, Exit.then]); refine ⟨rfl, _, results_tmp (t := 2) rfl _ _ _, ?_⟩; exact ⟨by rw [HC.out]; rfl, S.out.below⟩
     · rw [if_neg (fun h => c4 h.2)] at hz
       replace c4 : em = true := by simpa using c4
       subst c4
       rw [show (if (3 : Int) = 3 ∨ (3 : Int) = 4 then (1 : Int) else 0) = 1 from rfl] at hz
       by_cases c5 : r < 1
       · rw [if_pos (.inl c5)] at hz
         replace c5 := decide_eq_true c5
         have HC := Aside0.mk hz
         clear hz
         go_enter Tryd.func33, Tryd.ntmps33; go_wp2_with (first | ((with_reducible refine gate_box rfl ?_); refine ev_box S ?_; clear S; intro gm _ S) | ((with_reducible refine gate_load rfl ?_); first | refine ev_load S ?_ | refine ev_fld S ?_) | ((with_reducible refine gate_load rfl ?_); refine ev_ext _ ((HT.out.below S.out.below).row 15 rfl rfl rfl rfl rfl) ?_) | ((with_reducible refine gate_new rfl ?_); refine ev_new S 86 #[.bool false, .bool false, .int .i64 0, .nilFunc, .nilFunc] ?_; clear S; intro gf _ S) | ((with_reducible refine gate_st rfl ?_); refine ev_store S ?_; clear S; intro _ S) | (go_at_call 47; refine (empty_any o v _ _ (HO.out.below S.out.below) HEM.out).mono ?_; rintro e_ w7 ⟨rfl, hb_⟩; replace S := Aside0.mk (S.out.step hb_); clear hb_) | (go_at_call 39; refine (refused_any o v _ _ (HG.out.below S.out.below) (HO.out.below S.out.below) HRE.out).mono ?_; rintro e_ w7 ⟨rfl, hb_⟩; replace S := Aside0.mk (S.out.step hb_); clear hb_)); (try simp only [Exit.inBlock, Exit.then]); refine ⟨rfl, _, results_tmp (t := 2) rfl _ _ _, ?_⟩; exact ⟨by rw [HC.out]; rfl, S.out.below⟩
       · skip
         by_cases c6 : 8192 < r
         · rw [if_pos (.inr c6)] at hz
           replace c5 := decide_eq_false c5
           replace c6 := decide_eq_true c6
           have HC := Aside0.mk hz
           clear hz
           go_enter Tryd.func33, Tryd.ntmps33; go_wp2_with (first | ((with_reducible refine gate_box rfl ?_); refine ev_box S ?_; clear S; intro gm _ S) | ((with_reducible refine gate_load rfl ?_); first | refine ev_load S ?_ | refine ev_fld S ?_) | ((with_reducible refine gate_load rfl ?_); refine ev_ext _ ((HT.out.below S.out.below).row 15 rfl rfl rfl rfl rfl) ?_) | ((with_reducible refine gate_new rfl ?_); refine ev_new S 86 #[.bool false, .bool false, .int .i64 0, .nilFunc, .nilFunc] ?_; clear S; intro gf _ S) | ((with_reducible refine gate_st rfl ?_); refine ev_store S ?_; clear S; intro _ S) | (go_at_call 47; refine (empty_any o v _ _ (HO.out.below S.out.below) HEM.out).mono ?_; rintro e_ w7 ⟨rfl, hb_⟩; replace S := Aside0.mk (S.out.step hb_); clear hb_) | (go_at_call 39; refine (refused_any o v _ _ (HG.out.below S.out.below) (HO.out.below S.out.below) HRE.out).mono ?_; rintro e_ w7 ⟨rfl, hb_⟩; replace S := Aside0.mk (S.out.step hb_); clear hb_)); (try simp only [Exit.inBlock, Exit.then]); refine ⟨rfl, _, results_tmp (t := 2) rfl _ _ _, ?_⟩; exact ⟨by rw [HC.out]; rfl, S.out.below⟩
         · rw [if_neg (by omega)] at hz
           replace c5 := decide_eq_false c5
           replace c6 := decide_eq_false c6
           by_cases c7 : q < 1
           · rw [if_pos ⟨rfl, .inl c7⟩] at hz
             replace c7 := decide_eq_true c7
             have HC := Aside0.mk hz
             clear hz
             go_enter Tryd.func33, Tryd.ntmps33; go_wp2_with (first | ((with_reducible refine gate_box rfl ?_); refine ev_box S ?_; clear S; intro gm _ S) | ((with_reducible refine gate_load rfl ?_); first | refine ev_load S ?_ | refine ev_fld S ?_) | ((with_reducible refine gate_load rfl ?_); refine ev_ext _ ((HT.out.below S.out.below).row 15 rfl rfl rfl rfl rfl) ?_) | ((with_reducible refine gate_new rfl ?_); refine ev_new S 86 #[.bool false, .bool false, .int .i64 0, .nilFunc, .nilFunc] ?_; clear S; intro gf _ S) | ((with_reducible refine gate_st rfl ?_); refine ev_store S ?_; clear S; intro _ S) | (go_at_call 47; refine (empty_any o v _ _ (HO.out.below S.out.below) HEM.out).mono ?_; rintro e_ w7 ⟨rfl, hb_⟩; replace S := Aside0.mk (S.out.step hb_); clear hb_) | (go_at_call 39; refine (refused_any o v _ _ (HG.out.below S.out.below) (HO.out.below S.out.below) HRE.out).mono ?_; rintro e_ w7 ⟨rfl, hb_⟩; replace S := Aside0.mk (S.out.step hb_); clear hb_)); (try simp only [Exit.inBlock, Exit.then]); refine ⟨rfl, _, results_tmp (t := 2) rfl _ _ _, ?_⟩; exact ⟨by rw [HC.out]; rfl, S.out.below⟩
           · skip
             by_cases c8 : 1024 < q
             · rw [if_pos ⟨rfl, .inr c8⟩] at hz
               replace c7 := decide_eq_false c7
               replace c8 := decide_eq_true c8
               have HC := Aside0.mk hz
               clear hz
               go_enter Tryd.func33, Tryd.ntmps33; go_wp2_with (first | ((with_reducible refine gate_box rfl ?_); refine ev_box S ?_; clear S; intro gm _ S) | ((with_reducible refine gate_load rfl ?_); first | refine ev_load S ?_ | refine ev_fld S ?_) | ((with_reducible refine gate_load rfl ?_); refine ev_ext _ ((HT.out.below S.out.below).row 15 rfl rfl rfl rfl rfl) ?_) | ((with_reducible refine gate_new rfl ?_); refine ev_new S 86 #[.bool false, .bool false, .int .i64 0, .nilFunc, .nilFunc] ?_; clear S; intro gf _ S) | ((with_reducible refine gate_st rfl ?_); refine ev_store S ?_; clear S; intro _ S) | (go_at_call 47; refine (empty_any o v _ _ (HO.out.below S.out.below) HEM.out).mono ?_; rintro e_ w7 ⟨rfl, hb_⟩; replace S := Aside0.mk (S.out.step hb_); clear hb_) | (go_at_call 39; refine (refused_any o v _ _ (HG.out.below S.out.below) (HO.out.below S.out.below) HRE.out).mono ?_; rintro e_ w7 ⟨rfl, hb_⟩; replace S := Aside0.mk (S.out.step hb_); clear hb_)); (try simp only [Exit.inBlock, Exit.then]); refine ⟨rfl, _, results_tmp (t := 2) rfl _ _ _, ?_⟩; exact ⟨by rw [HC.out]; rfl, S.out.below⟩
             · rw [if_neg (by omega)] at hz
               replace c7 := decide_eq_false c7
               replace c8 := decide_eq_false c8
               rw [if_pos (by omega)] at hz
               have HC := Aside0.mk hz
               clear hz
               go_enter Tryd.func33, Tryd.ntmps33; go_wp2_with (first | ((with_reducible refine gate_box rfl ?_); refine ev_box S ?_; clear S; intro gm _ S) | ((with_reducible refine gate_load rfl ?_); first | refine ev_load S ?_ | refine ev_fld S ?_) | ((with_reducible refine gate_load rfl ?_); refine ev_ext _ ((HT.out.below S.out.below).row 15 rfl rfl rfl rfl rfl) ?_) | ((with_reducible refine gate_new rfl ?_); refine ev_new S 86 #[.bool false, .bool false, .int .i64 0, .nilFunc, .nilFunc] ?_; clear S; intro gf _ S) | ((with_reducible refine gate_st rfl ?_); refine ev_store S ?_; clear S; intro _ S) | (go_at_call 47; refine (empty_any o v _ _ (HO.out.below S.out.below) HEM.out).mono ?_; rintro e_ w7 ⟨rfl, hb_⟩; replace S := Aside0.mk (S.out.step hb_); clear hb_) | (go_at_call 39; refine (refused_any o v _ _ (HG.out.below S.out.below) (HO.out.below S.out.below) HRE.out).mono ?_; rintro e_ w7 ⟨rfl, hb_⟩; replace S := Aside0.mk (S.out.step hb_); clear hb_)); (try simp only [Exit.inBlock, Exit.then]); refine ⟨rfl, _, results_tmp (t := 2) rfl _ _ _, ?_⟩; exact ⟨by rw [HC.out]; rfl, S.out.below⟩
set_option maxRecDepth 100000 in
set_option maxHeartbeats 8000000 in
theorem check_cast (w : World) (c r q : Int) (o : OpV) (v : Value) (em : Bool) (re : Int) (hT : GF w) (hG : GW w) (ho : OpC w v o) (hem : EmIs o em) (hre : ReIs o re) :
 Calls Tryd.prog 33 #[.agg (mcells 4 c r q (opva o v))] w fun e w' => e = .returned (.int .i64 (checkE 4 c r q o.a em re)) ∧ Below w.heap.size w w' := by
 have S := Aside0.mk (St.init w (F := fun _ => True) (fun _ _ => trivial))
 have HT := Aside0.mk hT; have HG := Aside0.mk hG; have HO := Aside0.mk ho; have HEM := Aside0.mk hem
 have HRE := Aside0.mk hre
 clear hre
 clear hT hG ho hem
 obtain ⟨z, hz⟩ : ∃ z, z = checkE 4 c r q o.a em re := ⟨_, rfl⟩
 rw [← hz]
 unfold checkE at hz
 rw [if_neg (by omega)] at hz
 by_cases c1 : c < 1
 · rw [if_pos (.inl c1)] at hz
   replace c1 := decide_eq_true c1
   have HC := Aside0.mk hz
   clear hz
   go_enter Tryd.func33, Tryd.ntmps33; go_wp2_with (first | ((with_reducible refine gate_box rfl ?_); refine ev_box S ?_; clear S; intro gm _ S) | ((with_reducible refine gate_load rfl ?_); first | refine ev_load S ?_ | refine ev_fld S ?_) | ((with_reducible refine gate_load rfl ?_); refine ev_ext _ ((HT.out.below S.out.below).row 20 rfl rfl rfl rfl rfl) ?_) | ((with_reducible refine gate_new rfl ?_); refine ev_new S 86 #[.bool false, .bool false, .int .i64 0, .nilFunc, .nilFunc] ?_; clear S; intro gf _ S) | ((with_reducible refine gate_st rfl ?_); refine ev_store S ?_; clear S; intro _ S) | (go_at_call 47; refine (empty_any o v _ _ (HO.out.below S.out.below) HEM.out).mono ?_; rintro e_ w7 ⟨rfl, hb_⟩; replace S := Aside0.mk (S.out.step hb_); clear hb_) | (go_at_call 39; refine (refused_any o v _ _ (HG.out.below S.out.below) (HO.out.below S.out.below) HRE.out).mono ?_; rintro e_ w7 ⟨rfl, hb_⟩; replace S := Aside0.mk (S.out.step hb_); clear hb_)); (try simp only [Exit.inBlock, Exit.then]); refine ⟨rfl, _, results_tmp (t := 2) rfl _ _ _, ?_⟩; exact ⟨by rw [HC.out]; rfl, S.out.below⟩
 · skip
   by_cases c2 : 8 < c
   · rw [if_pos (.inr c2)] at hz
     replace c1 := decide_eq_false c1
     replace c2 := decide_eq_true c2
     have HC := Aside0.mk hz
     clear hz
     go_enter Tryd.func33, Tryd.ntmps33; go_wp2_with (first | ((with_reducible refine gate_box rfl ?_); refine ev_box S ?_; clear S; intro gm _ S) | ((with_reducible refine gate_load rfl ?_); first | refine ev_load S ?_ | refine ev_fld S ?_) | ((with_reducible refine gate_load rfl ?_); refine ev_ext _ ((HT.out.below S.out.below).row 20 rfl rfl rfl rfl rfl) ?_) | ((with_reducible refine gate_new rfl ?_); refine ev_new S 86 #[.bool false, .bool false, .int .i64 0, .nilFunc, .nilFunc] ?_; clear S; intro gf _ S) | ((with_reducible refine gate_st rfl ?_); refine ev_store S ?_; clear S; intro _ S) | (go_at_call 47; refine (empty_any o v _ _ (HO.out.below S.out.below) HEM.out).mono ?_; rintro e_ w7 ⟨rfl, hb_⟩; replace S := Aside0.mk (S.out.step hb_); clear hb_) | (go_at_call 39; refine (refused_any o v _ _ (HG.out.below S.out.below) (HO.out.below S.out.below) HRE.out).mono ?_; rintro e_ w7 ⟨rfl, hb_⟩; replace S := Aside0.mk (S.out.step hb_); clear hb_)); (try simp only [Exit.inBlock, Exit.then]); refine ⟨rfl, _, results_tmp (t := 2) rfl _ _ _, ?_⟩; exact ⟨by rw [HC.out]; rfl, S.out.below⟩
   · rw [if_neg (by omega)] at hz
     replace c1 := decide_eq_false c1
     replace c2 := decide_eq_false c2
     by_cases c3 : q ≠ 0
     · rw [if_pos ⟨by omega, c3⟩] at hz
       replace c3 : (q != 0) = true := bne_iff_ne.mpr c3
       have HC := Aside0.mk hz
       clear hz
       go_enter Tryd.func33, Tryd.ntmps33; go_wp2_with (first | ((with_reducible refine gate_box rfl ?_); refine ev_box S ?_; clear S; intro gm _ S) | ((with_reducible refine gate_load rfl ?_); first | refine ev_load S ?_ | refine ev_fld S ?_) | ((with_reducible refine gate_load rfl ?_); refine ev_ext _ ((HT.out.below S.out.below).row 20 rfl rfl rfl rfl rfl) ?_) | ((with_reducible refine gate_new rfl ?_); refine ev_new S 86 #[.bool false, .bool false, .int .i64 0, .nilFunc, .nilFunc] ?_; clear S; intro gf _ S) | ((with_reducible refine gate_st rfl ?_); refine ev_store S ?_; clear S; intro _ S) | (go_at_call 47; refine (empty_any o v _ _ (HO.out.below S.out.below) HEM.out).mono ?_; rintro e_ w7 ⟨rfl, hb_⟩; replace S := Aside0.mk (S.out.step hb_); clear hb_) | (go_at_call 39; refine (refused_any o v _ _ (HG.out.below S.out.below) (HO.out.below S.out.below) HRE.out).mono ?_; rintro e_ w7 ⟨rfl, hb_⟩; replace S := Aside0.mk (S.out.step hb_); clear hb_)); (try simp only [Exit.inBlock, Exit.then]); refine ⟨rfl, _, results_tmp (t := 2) rfl _ _ _, ?_⟩; exact ⟨by rw [HC.out]; rfl, S.out.below⟩
     · rw [if_neg (by omega)] at hz
       replace c3 : q = 0 := Decidable.of_not_not c3
       subst c3
       rw [if_neg (by omega)] at hz
       rw [show (if (4 : Int) = 3 ∨ (4 : Int) = 4 then (1 : Int) else 0) = 1 from rfl] at hz
       by_cases c5 : r < 1
       · rw [if_pos (.inl c5)] at hz
         replace c5 := decide_eq_true c5
         have HC := Aside0.mk hz
         clear hz
         go_enter Tryd.func33, Tryd.ntmps33; go_wp2_with (first | ((with_reducible refine gate_box rfl ?_); refine ev_box S ?_; clear S; intro gm _ S) | ((with_reducible refine gate_load rfl ?_); first | refine ev_load S ?_ | refine ev_fld S ?_) | ((with_reducible refine gate_load rfl ?_); refine ev_ext _ ((HT.out.below S.out.below).row 20 rfl rfl rfl rfl rfl) ?_) | ((with_reducible refine gate_new rfl ?_); refine ev_new S 86 #[.bool false, .bool false, .int .i64 0, .nilFunc, .nilFunc] ?_; clear S; intro gf _ S) | ((with_reducible refine gate_st rfl ?_); refine ev_store S ?_; clear S; intro _ S) | (go_at_call 47; refine (empty_any o v _ _ (HO.out.below S.out.below) HEM.out).mono ?_; rintro e_ w7 ⟨rfl, hb_⟩; replace S := Aside0.mk (S.out.step hb_); clear hb_) | (go_at_call 39; refine (refused_any o v _ _ (HG.out.below S.out.below) (HO.out.below S.out.below) HRE.out).mono ?_; rintro e_ w7 ⟨rfl, hb_⟩; replace S := Aside0.mk (S.out.step hb_); clear hb_)); (try simp only [Exit.inBlock, Exit.then]); refine ⟨rfl, _, results_tmp (t := 2) rfl _ _ _, ?_⟩; exact ⟨by rw [HC.out]; rfl, S.out.below⟩
       · skip
         by_cases c6 : 8192 < r
         · rw [if_pos (.inr c6)] at hz
           replace c5 := decide_eq_false c5
           replace c6 := decide_eq_true c6
           have HC := Aside0.mk hz
           clear hz
           go_enter Tryd.func33, Tryd.ntmps33; go_wp2_with (first | ((with_reducible refine gate_box rfl ?_); refine ev_box S ?_; clear S; intro gm _ S) | ((with_reducible refine gate_load rfl ?_); first | refine ev_load S ?_ | refine ev_fld S ?_) | ((with_reducible refine gate_load rfl ?_); refine ev_ext _ ((HT.out.below S.out.below).row 20 rfl rfl rfl rfl rfl) ?_) | ((with_reducible refine gate_new rfl ?_); refine ev_new S 86 #[.bool false, .bool false, .int .i64 0, .nilFunc, .nilFunc] ?_; clear S; intro gf _ S) | ((with_reducible refine gate_st rfl ?_); refine ev_store S ?_; clear S; intro _ S) | (go_at_call 47; refine (empty_any o v _ _ (HO.out.below S.out.below) HEM.out).mono ?_; rintro e_ w7 ⟨rfl, hb_⟩; replace S := Aside0.mk (S.out.step hb_); clear hb_) | (go_at_call 39; refine (refused_any o v _ _ (HG.out.below S.out.below) (HO.out.below S.out.below) HRE.out).mono ?_; rintro e_ w7 ⟨rfl, hb_⟩; replace S := Aside0.mk (S.out.step hb_); clear hb_)); (try simp only [Exit.inBlock, Exit.then]); refine ⟨rfl, _, results_tmp (t := 2) rfl _ _ _, ?_⟩; exact ⟨by rw [HC.out]; rfl, S.out.below⟩
         · rw [if_neg (by omega)] at hz
           replace c5 := decide_eq_false c5
           replace c6 := decide_eq_false c6
           rw [if_neg (by omega)] at hz
           rw [if_neg (by omega)] at hz
           by_cases c9 : re ≠ 0
           · rw [if_pos c9] at hz
             replace c9 : (re != 0) = true := bne_iff_ne.mpr c9
             have HC := Aside0.mk hz
             clear hz
             go_enter Tryd.func33, Tryd.ntmps33; go_wp2_with (first | ((with_reducible refine gate_box rfl ?_); refine ev_box S ?_; clear S; intro gm _ S) | ((with_reducible refine gate_load rfl ?_); first | refine ev_load S ?_ | refine ev_fld S ?_) | ((with_reducible refine gate_load rfl ?_); refine ev_ext _ ((HT.out.below S.out.below).row 20 rfl rfl rfl rfl rfl) ?_) | ((with_reducible refine gate_new rfl ?_); refine ev_new S 86 #[.bool false, .bool false, .int .i64 0, .nilFunc, .nilFunc] ?_; clear S; intro gf _ S) | ((with_reducible refine gate_st rfl ?_); refine ev_store S ?_; clear S; intro _ S) | (go_at_call 47; refine (empty_any o v _ _ (HO.out.below S.out.below) HEM.out).mono ?_; rintro e_ w7 ⟨rfl, hb_⟩; replace S := Aside0.mk (S.out.step hb_); clear hb_) | (go_at_call 39; refine (refused_any o v _ _ (HG.out.below S.out.below) (HO.out.below S.out.below) HRE.out).mono ?_; rintro e_ w7 ⟨rfl, hb_⟩; replace S := Aside0.mk (S.out.step hb_); clear hb_)); (try simp only [Exit.inBlock, Exit.then]); refine ⟨rfl, _, results_tmp (t := 2) rfl _ _ _, ?_⟩; exact ⟨by rw [HC.out]; rfl, S.out.below⟩
           · rw [if_neg c9] at hz
             replace c9 : re = 0 := Decidable.of_not_not c9
             subst c9
             rw [if_neg (by omega)] at hz
             have HC := Aside0.mk hz
             clear hz
             go_enter Tryd.func33, Tryd.ntmps33; go_wp2_with (first | ((with_reducible refine gate_box rfl ?_); refine ev_box S ?_; clear S; intro gm _ S) | ((with_reducible refine gate_load rfl ?_); first | refine ev_load S ?_ | refine ev_fld S ?_) | ((with_reducible refine gate_load rfl ?_); refine ev_ext _ ((HT.out.below S.out.below).row 20 rfl rfl rfl rfl rfl) ?_) | ((with_reducible refine gate_new rfl ?_); refine ev_new S 86 #[.bool false, .bool false, .int .i64 0, .nilFunc, .nilFunc] ?_; clear S; intro gf _ S) | ((with_reducible refine gate_st rfl ?_); refine ev_store S ?_; clear S; intro _ S) | (go_at_call 47; refine (empty_any o v _ _ (HO.out.below S.out.below) HEM.out).mono ?_; rintro e_ w7 ⟨rfl, hb_⟩; replace S := Aside0.mk (S.out.step hb_); clear hb_) | (go_at_call 39; refine (refused_any o v _ _ (HG.out.below S.out.below) (HO.out.below S.out.below) HRE.out).mono ?_; rintro e_ w7 ⟨rfl, hb_⟩; replace S := Aside0.mk (S.out.step hb_); clear hb_)); (try simp only [Exit.inBlock, Exit.then]); refine ⟨rfl, _, results_tmp (t := 2) rfl _ _ _, ?_⟩; exact ⟨by rw [HC.out]; rfl, S.out.below⟩
theorem mcheck_any (w : World) (k c r q : Int) (o : OpV) (v : Value) (em : Bool) (re : Int) (hT : GF w) (hG : GW w) (ho : OpC w v o) (hem : EmIs o em) (hre : k = 2 ∨ k = 4 → ReIs o re) :
 Calls Tryd.prog 33 #[.agg (mcells k c r q (opva o v))] w fun e w' => e = .returned (.int .i64 (checkE k c r q o.a em re)) ∧ Below w.heap.size w w' := by
 by_cases hk : k < 1 ∨ 4 < k
 · exact check_1 w k c r q o v em re hk
 · have : k = 1 ∨ k = 2 ∨ k = 3 ∨ k = 4 := by omega
   rcases this with rfl | rfl | rfl | rfl
   · exact check_hello w c r q o v em re hT hG ho hem
   · exact check_submit w c r q o v em re hT hG ho hem (hre (.inl rfl))
   · exact check_ack w c r q o v em re hT hG ho hem
   · exact check_cast w c r q o v em re hT hG ho hem (hre (.inr rfl))
end Go.Proofs.YtjnicgfkogfifaaDoor
end
