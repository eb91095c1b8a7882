/- MsgNames_card, part 33. -/
import Derived.Test.YtjnicgfkogfifaaDoorQNa32
import Derived.Test.YtjnicgfkogfifaaDoorQNa31

section
/- The writers of msg: numbers, and what stands behind a message's head. -/
namespace Go.Proofs.YtjnicgfkogfifaaDoor
open Go.RowKit Go.Proofs.YtjnicgfkogfifaaDoor.PAll Go.Proofs.YtjnicgfkogfifaaDoorW.PrintWords Go.Proofs.YtjnicgfkogfifaaDoorW.PrintLast

section
variable {P : Program} {ops : Array Oper} {rest : List Oper} {o : Oper} {a : Act} {Q : Exit → Act → World → Prop} {w0 W : World} {bs : List Bx} {F : World → Prop} {N : Tmp}
end
section
variable {P : Program} {ops : Array Oper} {Q : Exit → Act → World → Prop} {md : Region.Mode} {S : World → Prop} {ds : List Nat} {fuel : Nat} {l : Array Bool} {a : Act} {w w0 : World} {oi : Oper} {N : Tmp} {bs : List Bx} {F : World → Prop}
theorem bn_ (i : Nat) (cs : Array Value) (n : Nat) {ty : TypeId} {xs : Array (Nat × Operand)} (hSt : St w0 w bs F)
 (h : ∀ g w', St w0 w' ((g, 3, cs) :: bs) F → S w' ∧ (S w' → wpAnyLast P md ops Q S ds fuel (l.setIfInBounds i true) (a.put (some N) (.slice (some ⟨g, 0, none⟩) n n)) w'))
 (hi : ops[i]? = some oi := by rfl) (hN : oi.dst = some N := by rfl) (hc : readyB md ops l (l.setIfInBounds i true) i = true := by kernel_rfl) (hd : i ∉ ds := by decide)
 (ho : oi.op = .buildSlice ty n xs := by rfl)
 (hw : Region.wanted oi (yielded ops a.tmps) = true := by first | exact wanted_plain rfl | (refine wanted_on rfl ?_; simp [yielded]))
 (hrun : (execOp a.eval oi).run P w = .ok (.value (.slice (some ⟨w.heap.size, 0, none⟩) n n)) (w.alloc (.cells cs 3 (0, 0))) := by first | (go_simp; done) | (go_simp; rfl)) : wpAnyLast P md ops Q S ds (fuel + 1) l a w :=
 one_ (l.setIfInBounds i true) hi hN hc hd fun K hK => by
  have _ := ho
  rw [if_pos hw]
  unfold Oper.wp
  rw [hrun]
  show K (a.put oi.dst _) _
  rw [hN]
  obtain ⟨h1, h2⟩ := h _ _ (hSt.push (below_alloc (Below.refl _ _) _) (blk_new w _) rfl)
  exact hK.out _ _ h1 h2
theorem cv_ (i : Nat) {f : FuncId} {fn : Func} {p : Tmp} {xs : Array Operand} {ts : Array TypeId} (args : Array Value)
 (h : Calls P f args w fun e w' => ∃ v, e = .returned v ∧ S w' ∧ (S w' → wpAnyLast P md ops Q S ds fuel (l.setIfInBounds i true) (a.put (some N) v) w'))
 (hf : P.funcs[f]? = some fn) (hp : a.eval (.tmp p) = .func (.func f) #[] #[])
 (hi : ops[i]? = some oi := by rfl) (hN : oi.dst = some N := by rfl) (hc : readyB md ops l (l.setIfInBounds i true) i = true := by kernel_rfl) (hd : i ∉ ds := by decide)
 (hop : oi.op = .call { callee := .value (.tmp p), args := xs, argTypes := ts } := by rfl) (hargs : xs.map a.eval = args := by ((try simp only [List.map_toArray, List.map_cons, List.map_nil]); first | done | rfl))
 (hw : Region.wanted oi (yielded ops a.tmps) = true := by first | exact wanted_plain rfl | (refine wanted_on rfl ?_; simp [yielded]))
 (hname : (fn.name == "runtime.NumGoroutine") = false := by kernel_rfl) (hb : fn.body.isSome = true := by rfl) : wpAnyLast P md ops Q S ds (fuel + 1) l a w :=
 one_ (l.setIfInBounds i true) hi hN hc hd fun K hK => by
  refine call_ f args hw hN ?_ (h.mono fun _ _ ⟨v, he, hs, hh⟩ => ⟨v, he, hK.out _ _ hs hh⟩)
  have he := enters_ hf hname hb args w
  unfold execOp
  simp [hop, resolve, Deferred.ofValue, invoke, hp, hargs, he]
end
abbrev cellsN (ns : List Nat) : Array Value := (ns.map fun n : Nat => Value.int .i64 n).toArray
theorem ints_C {w : World} {g : Nat} {ns : List Nat} (h : w.heap[g]? = some (.cells (cellsN ns) 3 (0, 0))) (hn : ns.length ≤ 9223372036854775807) : Kd.C (Kd.int .i64) w (some ⟨g, 0, none⟩) (nI ns).length (nI ns) := by
 refine ⟨rfl, by rw [List.length_map]; exact hn, fun _ => ⟨_, rfl, fun j p hj => ⟨[.int .i64 p], rfl, rfl, fun i u hu => ?_⟩⟩⟩
 rw [List.getElem?_map, Option.map_eq_some_iff] at hj
 obtain ⟨m, hm, rfl⟩ := hj
 match i, hu with
 | 0, hu =>
  obtain rfl := Option.some.inj hu
  rw [add_plain, blk_cell h]
  simp [Kd.int, Kd.scalar, hm]
 | i + 1, hu => simp at hu
theorem put_any (w0 w : World) (bs : List Bx) (F : World → Prop) (g n : Nat) (ns : List Nat) (u : Value) (l0 : List Int) (S : St w0 w ((g, 3, cellsN ns) :: bs) F) (hR : Kd.R (Kd.int .u8) 5 w w0.heap.size (fun _ => True) u l0) (hn : n = ns.length) (hs : ns.length ≤ 1099511627776) (hx : l0.length + (encNs ns).length ≤ 140737488355328) (hbs : ∀ b ∈ bs, b.2.1 ≠ 5) :
 Calls Tryd.prog 34 #[u, .slice (some ⟨g, 0, none⟩) n n] w fun e w' => ∃ v, e = .returned v ∧ St w0 w' ((g, 3, cellsN ns) :: bs) (fun W => True ∧ Kd.R (Kd.int .u8) 5 W w0.heap.size (fun _ => True) v (l0 ++ iB (encNs ns))) := by
 subst hn
 have hE : ∀ b ∈ ((g, 3, cellsN ns) :: bs : List Bx), b.2.1 ∉ (5 : Nat) :: (Kd.int .u8).E := fun b hb h5 => by
  rw [show (Kd.int .u8).E = [] from rfl, List.mem_singleton] at h5
  rcases List.mem_cons.1 hb with rfl | hb
  · exact absurd (show (3 : Nat) = 5 from h5) (by decide)
  · exact hbs b hb h5
 have hq := S.notBox hR hE
 have e1 : ns.length = (nI ns).length := (List.length_map _).symm
 rw [e1]
 refine (msg_put.calls _ _ u l0 (some ⟨g, 0, none⟩) _ (nI ns) _ w0 w S.below hq (fun W hW => ints_C ((hW.2 g (S.lt _ List.mem_cons_self) (fun h => h.1 (by simp))).trans (S.at_ 0 rfl)) (by omega)) (Nat.le_refl _) (put_is ns l0 0 hs hx)).mono ?_
 rintro e w' ⟨v, rfl, h1, h2, h3⟩
 exact ⟨v, rfl, S.keptR h2 h3 h1⟩
def WrIs (w0 : World) (l : List Int) (e : Ending) (w' : World) : Prop := ∃ v, e = .returned v ∧ Kd.R (Kd.int .u8) 5 w' w0.heap.size (fun _ => True) v l ∧ Below w0.heap.size w0 w'
theorem St.ofR {w0 w : World} {u : Value} {l : List Int} (hb : Below w0.heap.size w0 w) (hR : Kd.R (Kd.int .u8) 5 w w0.heap.size (fun _ => True) u l) : St w0 w [] (fun W => Kd.R (Kd.int .u8) 5 W w0.heap.size (fun _ => True) u l) :=
 ⟨hb, by simp, by simp, (foot_R hR).mono fun _ _ => by simp⟩
theorem writeNothing_any (w0 w : World) (hb : Below w0.heap.size w0 w) (u : Value) (l0 : List Int) (hR : Kd.R (Kd.int .u8) 5 w w0.heap.size (fun _ => True) u l0) (k c r q : Int) (o : OpV) (v : Value) :
 Calls Tryd.prog 134 #[u, .agg (mcells k c r q (opva o v))] w (WrIs w0 l0) := by
 have S := Aside0.mk (St.ofR hb hR)
 clear hb hR
 go_enter Tryd.func134, Tryd.ntmps134
 go_wp2_with (first | ((with_reducible refine gate_box rfl ?_); refine ev_box S ?_; clear S; intro gm _ S))
 go_ret
 exact ⟨_, rfl, S.out.now, S.out.below⟩
end Go.Proofs.YtjnicgfkogfifaaDoor
end

section
/- Encode and EncodeOp, by their contracts: the bytes, or why there are none. -/
namespace Go.Proofs.YtjnicgfkogfifaaDoor
open Go.RowKit Go.Proofs.YtjnicgfkogfifaaDoor.PAll Go.Proofs.YtjnicgfkogfifaaDoorW.PrintWords Go.Proofs.YtjnicgfkogfifaaDoorW.PrintLast

section
variable {P : Program} {ops : Array Oper} {Q : Exit → Act → World → Prop} {md : Region.Mode} {S : World → Prop} {ds : List Nat} {fuel : Nat} {l : Array Bool} {a a' : Act} {w : World} {oi : Oper} {N : Tmp}
theorem la_ (i : Nat) {p : Addr} {v : Value} (hS : S w) (hc_ : ∀ w', S w' → w'.cell? p = some v)
 (h : wpAnyLast P md ops Q S ds fuel (l.setIfInBounds i true) a' w) {ty : TypeId} {x : Operand}
 (hi : ops[i]? = some oi := by rfl) (hN : oi.dst = some N := by rfl) (hc : takeB md ops ds l (l.setIfInBounds i true) i = true := by kernel_rfl)
 (ho : oi.op = .load ty x := by rfl) (hx : a.eval x = .pointer (some p) := by rfl)
 (hw : Region.wanted oi (yielded ops a.tmps) = true := by first | exact wanted_plain rfl | (refine wanted_on rfl ?_; simp [yielded]))
 (hy : ∀ w', w'.cell? p = some v → (execOp a.eval oi).run P w' = .ok (.value v) w' := by intro w' hc_; first | (go_simp; done) | (go_simp; rfl))
 (ha : a.put (some N) v = a' := by (simp only [Act.put, List.setIfInBounds_toArray, List.set_cons_zero, List.set_cons_succ]; rfl))
 (hQ : ∀ c a w, Q (.panic c) (a.put oi.dst v) w → Q (.panic c) a w := by exact fun _ _ _ h => h) : wpAnyLast P md ops Q S ds (fuel + 1) l a w :=
 have _ := ho; have _ := hx
 take_ (l.setIfInBounds i true) hi hN hc hQ (.inl ⟨hw, fun w' hS' => hy w' (hc_ w' hS')⟩) hS ha h
end
set_option maxRecDepth 100000 in
def EncIs (w : World) (l : List Int) (e : Ending) (w' : World) : Prop := ∃ v, e = .returned (.tuple #[v, .int .i64 0]) ∧ Kd.R (Kd.int .u8) 5 w' w.heap.size (fun _ => True) v l ∧ Below w.heap.size w w'
set_option maxRecDepth 100000 in
set_option maxHeartbeats 4000000 in
theorem encode_hello (w : World) (c r : Nat) (q : Int) (o : OpV) (v : Value) (em : Bool) (re : Int) (hT : GF w) (hG : GW w) (ho : OpC w v o) (hem : EmIs o em) (hre : (1 : Int) = 2 ∨ (1 : Int) = 4 → ReIs o re) (hz : checkE 1 c r q o.a em re = 0) (hl : ([] : List Int).length + (encNs [1, c, r]).length ≤ 140737488355328) :
 Calls Tryd.prog 16 #[.agg (mcells 1 c r q (opva o v))] w (EncIs w ([] ++ iB (encNs [1, c, r]))) := by
 have S := Aside0.mk (St.init w (F := fun _ => True) (fun _ _ => trivial)); have HT := Aside0.mk hT; have HG := Aside0.mk hG; have HO := Aside0.mk ho; have HEM := Aside0.mk hem; have HRE := Aside0.mk hre; have HZ := Aside0.mk hz; have HL := Aside0.mk hl
 clear hT hG ho hem hre hz hl
 go_enter Tryd.func16, Tryd.ntmps16; go_upto_region 4 with (first | ((with_reducible refine gate_box rfl ?_); refine ev_box S ?_; clear S; intro gm _ S) | ((with_reducible refine gate_load rfl ?_); first | refine ev_load S ?_ | refine ev_fld S ?_) | (go_at_call 33; refine (mcheck_any _ _ _ _ _ o v em re (HT.out.below S.out.below) (HG.out.below S.out.below) (HO.out.below S.out.below) HEM.out HRE.out).mono ?_; rw [HZ.out]; rintro e_ w7 ⟨rfl, hb_⟩; replace S := Aside0.mk (S.out.step hb_); clear hb_))
 refine rg_start (n := 17) (fun W => St w W _ _) [] S.out (fun _ h => h.drew) ?_; clear S; intro wr S; refine pu_ 0 ?_; refine fl_ 1 0 S ?_; refine pu_ 2 ?_; refine pu_ 3 ?_; refine la_ (p := ⟨0, 9, none⟩) 4 S (fun w' hS' => (HT.out.below hS'.below).at_ 9 rfl) ?_; refine pu_ 5 ?_; refine fl_ 6 0 S ?_; refine pu_ 7 ?_; refine fl_ 8 0 S ?_; refine pu_ 9 ?_; refine fl_ 10 0 S ?_; refine ld_ 13 0 S ?_
 refine bn_ 11 (cellsN [1, c, r]) 3 (St.init wr (F := fun _ => True) (fun _ _ => trivial)) ?_; intro gl _ S'; refine ⟨S.step S'.below, fun _ => ?_⟩; refine nr_ ?_; refine cl_ 12 #[.slice none 0 0, .slice (some ⟨gl, 0, none⟩) 3 3] ?_ Tryd.func34; refine (put_any _ _ _ _ _ _ [1, c, r] _ [] S' (Kd.R_nil _ _ _ _ _) rfl (by simp) HL.out (fun b hb => (List.not_mem_nil hb).elim)).mono ?_; clear S'; rintro e_ w7 ⟨v_, rfl, S'⟩; refine ⟨_, rfl, S.step S'.below, fun _ => ?_⟩; refine nr_ ?_
 refine cv_ 14 #[v_, .agg (mcells 1 c r q (opva o v))] ?_ Tryd.func134 rfl
 refine (writeNothing_any wr _ S'.below _ _ S'.now.2 1 c r q o v).mono ?_
 have HW := Aside0.mk S.below.size
 rintro e_ w7 ⟨v2, rfl, hR, hb⟩; refine ⟨_, rfl, S.step hb, fun _ => ?_⟩; replace S := S.step hb; refine nr_ ?_; refine pu_ 15 ?_; refine pu_ 16 ?_; refine done_ (by kernel_rfl) ?_
 go_wp2_with (fail); (try simp only [Exit.inBlock, Exit.then]); exact bodyPost_ret (results_tmp2 rfl _ _ _) rfl ⟨_, rfl, Kd.R_lower hR HW.out, S.below⟩
end Go.Proofs.YtjnicgfkogfifaaDoor
end

section
/- Decode, by its contract: the message of bytes; else the byte of the first fault, and why. -/
namespace Go.Proofs.YtjnicgfkogfifaaDoor
open Go.RowKit Go.Proofs.YtjnicgfkogfifaaDoor.PAll Go.Proofs.YtjnicgfkogfifaaDoorW.PrintWords Go.Proofs.YtjnicgfkogfifaaDoorW.PrintLast

abbrev mmA (m : MM) (v : Value) : Array Value := mbA m.b.code m.client m.rev m.b v
def InnerM (w0 : World) (bs : List Bx) (F : World → Prop) (gb go : Nat) (A : Option Addr) (n cap : Nat) (r : Rd MM) (e : Ending) (w' : World) : Prop :=
 match r with
 | .ok m _ => ∃ v, e = .returned (.tuple #[]) ∧ St w0 w' ((gb, 39, slA A n cap) :: (go, 37, mmA m v) :: bs) (fun W => F W ∧ Kd.R k54 54 W w0.heap.size (fun _ => True) v (rowOf m.b))
 | .bad p er => e = flt p er ∧ St w0 w' ((gb, 39, slA A n cap) :: (go, 37, zM) :: bs) F
theorem away54 {bs : List Bx} (h : ∀ b ∈ bs, b.2.1 ≠ 54) {x : Bx} (hx : x.2.1 ≠ 54) : ∀ b ∈ x :: bs, b.2.1 ≠ 54 := fun b hb => by
 rcases List.mem_cons.1 hb with rfl | hb
 · exact hx
 · exact h b hb
set_option maxRecDepth 100000 in
set_option maxHeartbeats 4000000 in
theorem innerM_any (w0 w : World) (bs : List Bx) (F : World → Prop) (gb go : Nat) (A : Option Addr) (cap : Nat) (xs : List UInt8) (S : St w0 w ((gb, 39, slA A xs.length cap) :: (go, 37, zM) :: bs) F) (hF : ∀ W, F W → BytesAt W A xs) (hG : ∀ W, F W → GW W) (hT : ∀ W, F W → GF W) (hl : xs.length ≤ 140737488351232) (hcap : xs.length ≤ cap) (hcap2 : cap ≤ 9223372036854775807) (hbs : ∀ b ∈ bs, b.2.1 ≠ 54) :
 Calls Tryd.prog 36 #[.pointer (some ⟨gb, 0, none⟩), .pointer (some ⟨go, 0, none⟩)] w (InnerM w0 bs F gb go A xs.length cap (msgR chkL xs)) := by
 have HF := Aside0.mk hF
 have HG := Aside0.mk hG
 have HT := Aside0.mk hT
 have HBS := Aside0.mk (away54 (away54 hbs (x := (go, 37, zM)) (show (37 : Nat) ≠ 54 by decide)) (x := (gb, 39, slA A xs.length cap)) (show (39 : Nat) ≠ 54 by decide))
 replace S := Aside0.mk S
 clear hF hG hT hbs
 rcases hr : msgR chkL xs with ⟨m, j⟩ | ⟨p, q⟩
 · have HR := Aside0.mk hr
   obtain ⟨mc, mr, mb⟩ := m
   rcases mb with _ | o | q | o
   all_goals first | (obtain ⟨oc, os, ob⟩ := o; cases ob) | skip
   all_goals
    clear hr
    go_enter Tryd.func36, Tryd.ntmps36
    go_wp2_with (first | ((with_reducible refine gate_load rfl ?_); refine ev_fld S ?_) | ((with_reducible refine gate_box rfl ?_); refine ev_box S ?_; clear S; intro gr_ _ S) | (go_at_call 37; refine (message_any _ _ _ _ _ _ _ xs S.out HF.out HG.out HT.out hl hcap hcap2 HBS.out).mono ?_; rw [HR.out]; rintro e_ w7 ⟨v_, rfl, S'⟩; obtain ⟨Av_, cv_, rfl⟩ := Kd.R_slice S'.now.2; replace S := Aside0.mk S'; clear S') | ((with_reducible refine gate_st rfl ?_); refine ev_store S ?_; clear S; intro _ S))
    refine ⟨rfl, .tuple #[], by simp [results, Tryd.results36], ?_⟩
    exact ⟨_, rfl, S.out.one⟩
 · have HR := Aside0.mk hr
   clear hr
   go_enter Tryd.func36, Tryd.ntmps36
   go_wp2_with (first | ((with_reducible refine gate_load rfl ?_); refine ev_fld S ?_) | ((with_reducible refine gate_box rfl ?_); refine ev_box S ?_; clear S; intro gr_ _ S) | (go_at_call 37; refine (message_any _ _ _ _ _ _ _ xs S.out HF.out HG.out HT.out hl hcap hcap2 HBS.out).mono ?_; rw [HR.out]; rintro e_ w7 ⟨rfl, cs_, S'⟩; replace S := Aside0.mk S'; clear S'))
   exact ⟨rfl, rfl, S.out.one⟩
def CaughtM (w0 : World) (bs : List Bx) (F : World → Prop) (gb go : Nat) (A : Option Addr) (n cap : Nat) (r : Rd MM) (e : Ending) (w' : World) : Prop :=
 match r with
 | .ok m _ => ∃ v, e = .returned (.tuple #[.int .i64 0, .int .i64 0]) ∧ St w0 w' ((gb, 39, slA A n cap) :: (go, 37, mmA m v) :: bs) (fun W => F W ∧ Kd.R k54 54 W w0.heap.size (fun _ => True) v (rowOf m.b))
 | .bad p er => e = .returned (.tuple #[.int .i64 p, .int .i64 er]) ∧ St w0 w' ((gb, 39, slA A n cap) :: (go, 37, zM) :: bs) F
set_option maxRecDepth 100000 in
set_option maxHeartbeats 4000000 in
theorem caughtM_any (w0 w : World) (bs : List Bx) (F : World → Prop) (gb go : Nat) (A : Option Addr) (cap : Nat) (xs : List UInt8) (S : St w0 w ((gb, 39, slA A xs.length cap) :: (go, 37, zM) :: bs) F) (hF : ∀ W, F W → BytesAt W A xs) (hG : ∀ W, F W → GW W) (hT : ∀ W, F W → GF W) (hl : xs.length ≤ 140737488351232) (hcap : xs.length ≤ cap) (hcap2 : cap ≤ 9223372036854775807) (hbs : ∀ b ∈ bs, b.2.1 ≠ 54) :
 Calls Tryd.prog 35 #[.func (.func 36) #[] #[.pointer (some ⟨gb, 0, none⟩), .pointer (some ⟨go, 0, none⟩)]] w (CaughtM w0 bs F gb go A xs.length cap (msgR chkL xs)) := by
 have HF := Aside0.mk hF
 have HG := Aside0.mk hG
 have HT := Aside0.mk hT
 have HBS := Aside0.mk (fun ge ga : Nat => away54 (away54 hbs (x := (ga, 3, #[.int .i64 0])) (show (3 : Nat) ≠ 54 by decide)) (x := (ge, 40, #[.int .i64 0])) (show (40 : Nat) ≠ 54 by decide))
 replace S := Aside0.mk S
 clear hF hG hT hbs
 have hmf : ∀ (fn : Fn) (first cap : Array Value) (w : World), (Instr.makeFunc fn first cap).run Tryd.prog w = .ok (.func fn first cap) w := fun _ _ _ _ => rfl
 rcases hr : msgR chkL xs with ⟨m, j⟩ | ⟨p, q⟩
 · have HR := Aside0.mk hr
   clear hr
   go_enter_defers Tryd.func35, Tryd.ntmps35
   go_wp2_with (first | ((with_reducible refine gate_new rfl ?_); first | (refine ev_new S 3 #[.int .i64 0] ?_; clear S; intro ga _ S) | (refine ev_new S 40 #[.int .i64 0] ?_; clear S; intro ge _ S)) | (go_at_call 36; refine (innerM_any _ _ _ _ _ _ _ _ xs S.out.front2 HF.out HG.out HT.out hl hcap hcap2 (HBS.out _ _)).mono ?_; rw [HR.out]; rintro e_ w7 ⟨v_, rfl, S'⟩; replace S := Aside0.mk S'.front2; clear S') | ((with_reducible refine gate_st rfl ?_); refine ev_set S ?_; clear S; intro _ S))
   refine leaves_cons (f := 48) (args := #[.pointer (some ⟨ga, 0, none⟩), .pointer (some ⟨ge, 0, none⟩)]) (by simp) (by simp [go_sem]) ?_
   refine (catch_idle _ _ _).mono ?_
   rintro e u' w'' ⟨rfl, rfl, rfl⟩
   have ha : _ = some (Value.int .i64 0) := blk_cell (S.out.at_ 1 rfl) 0
   have he : _ = some (Value.int .i64 0) := blk_cell (S.out.at_ 0 rfl) 0
   refine ⟨.tuple #[.int .i64 0, .int .i64 0], by simp [results, Tryd.results35, go_sem, ha, he], ?_⟩
   exact ⟨_, rfl, S.out.one.one⟩
 · have HR := Aside0.mk hr
   clear hr
   go_enter_defers Tryd.func35, Tryd.ntmps35
   go_wp2_with (first | ((with_reducible refine gate_new rfl ?_); first | (refine ev_new S 3 #[.int .i64 0] ?_; clear S; intro ga _ S) | (refine ev_new S 40 #[.int .i64 0] ?_; clear S; intro ge _ S)) | (go_at_call 36; refine (innerM_any _ _ _ _ _ _ _ _ xs S.out.front2 HF.out HG.out HT.out hl hcap hcap2 (HBS.out _ _)).mono ?_; rw [HR.out]; rintro e_ w7 ⟨rfl, S'⟩; replace S := Aside0.mk S'.front2; clear S') | ((with_reducible refine gate_st rfl ?_); refine ev_set S ?_; clear S; intro _ S))
   refine leaves_cons (f := 48) (args := #[.pointer (some ⟨ga, 0, none⟩), .pointer (some ⟨ge, 0, none⟩)]) (by simp) (by simp [go_sem]) ?_
   refine (catch_panicking _ _ _ _ ga ge p q [] S.out).mono ?_
   rintro e u' w'' ⟨rfl, rfl, S'⟩
   have ha : _ = some (Value.int .i64 p) := blk_cell (S'.at_ 1 rfl) 0
   have he : _ = some (Value.int .i64 q) := blk_cell (S'.at_ 0 rfl) 0
   simp [Leaves, settle, results, Tryd.results35, go_sem, ha, he]
   exact ⟨rfl, S'.one.one⟩
def DecIs (w : World) (r : Rd MM) (e : Ending) (w' : World) : Prop :=
 match r with
 | .ok m _ => ∃ v, e = .returned (.tuple #[.agg (mmA m v), .int .i64 0, .int .i64 0]) ∧ Kd.R k54 54 w' w.heap.size (fun _ => True) v (rowOf m.b) ∧ Below w.heap.size w w'
 | .bad p er => e = .returned (.tuple #[.agg zM, .int .i64 p, .int .i64 er]) ∧ Below w.heap.size w w'
set_option maxRecDepth 100000 in
set_option maxHeartbeats 4000000 in
theorem decode_any (w : World) (A : Option Addr) (cap : Nat) (xs : List UInt8) (hB : BytesAt w A xs) (hG : GW w) (hT : GF w) (hl : xs.length ≤ 140737488351232) (hcap : xs.length ≤ cap) (hcap2 : cap ≤ 9223372036854775807) :
 Calls Tryd.prog 17 #[.slice A xs.length cap] w (DecIs w (msgR chkL xs)) := by
 have S := Aside0.mk (St.init w (F := fun W => BytesAt W A xs ∧ GW W ∧ GF W) (Foot.and (foot_bytes hB) (Foot.and (foot_gw hG) (foot_gf hT))))
 have hmf : ∀ (fn : Fn) (first cap : Array Value) (w : World), (Instr.makeFunc fn first cap).run Tryd.prog w = .ok (.func fn first cap) w := fun _ _ _ _ => rfl
 clear hB hG hT
 rcases hr : msgR chkL xs with ⟨m, j⟩ | ⟨p, q⟩
 · have HR := Aside0.mk hr
   obtain ⟨mc, mr, mb⟩ := m
   rcases mb with _ | o | q | o
   all_goals first | (obtain ⟨oc, os, ob⟩ := o; cases ob) | skip
   all_goals
    clear hr
    go_enter Tryd.func17, Tryd.ntmps17
    go_upto_region 1 with (first | ((with_reducible refine gate_box rfl ?_); refine ev_box1 S (.slice A xs.length cap) ?_; clear S; intro gb _ S) | ((with_reducible refine gate_new rfl ?_); refine ev_new S 37 zM ?_; clear S; intro gr _ S))
    go_wp2_with (first | ((with_reducible refine gate_new rfl ?_); refine ev_new S 37 zM ?_; clear S; intro go _ S; replace S := Aside0.mk S.out.r3) | (go_at_call 35; refine (caughtM_any _ _ _ _ _ _ _ _ xs S.out (fun _ h => h.1) (fun _ h => h.2.1) (fun _ h => h.2.2) hl hcap hcap2 (away54 (fun _ h => (List.not_mem_nil h).elim) (show (37 : Nat) ≠ 54 by decide))).mono ?_; rw [HR.out]; rintro e_ w7 ⟨v_, rfl, S'⟩; obtain ⟨Av_, cv_, rfl⟩ := Kd.R_slice S'.now.2; replace S := Aside0.mk S'.u3; clear S') | ((with_reducible refine gate_load rfl ?_); first | refine ev_load S ?_ | refine ev_fld S ?_) | ((with_reducible refine gate_st rfl ?_); refine ev_store S ?_; clear S; intro _ S))
    refine bodyPost_ret (results_ctt rfl _ _ _ 37 _ (0, 0) _ rfl (S.out.at_ 1 rfl) Tryd.underlying37 rfl (by kernel_rfl)) rfl ?_
    exact ⟨_, rfl, S.out.now.2, S.out.below⟩
 · have HR := Aside0.mk hr
   have hq : (q != 0) = true := bne_iff_ne.mpr (msg_err hr)
   clear hr
   go_enter Tryd.func17, Tryd.ntmps17
   go_upto_region 1 with (first | ((with_reducible refine gate_box rfl ?_); refine ev_box1 S (.slice A xs.length cap) ?_; clear S; intro gb _ S) | ((with_reducible refine gate_new rfl ?_); refine ev_new S 37 zM ?_; clear S; intro gr _ S))
   go_wp2_with (first | ((with_reducible refine gate_new rfl ?_); refine ev_new S 37 zM ?_; clear S; intro go _ S; replace S := Aside0.mk S.out.r3) | (go_at_call 35; refine (caughtM_any _ _ _ _ _ _ _ _ xs S.out (fun _ h => h.1) (fun _ h => h.2.1) (fun _ h => h.2.2) hl hcap hcap2 (away54 (fun _ h => (List.not_mem_nil h).elim) (show (37 : Nat) ≠ 54 by decide))).mono ?_; rw [HR.out]; rintro e_ w7 ⟨rfl, S'⟩; replace S := Aside0.mk S'.u3; clear S') | ((with_reducible refine gate_load rfl ?_); first | refine ev_load S ?_ | refine ev_fld S ?_) | ((with_reducible refine gate_st rfl ?_); refine ev_store S ?_; clear S; intro _ S))
   refine bodyPost_ret (results_ctt rfl _ _ _ 37 _ (0, 0) _ rfl (S.out.at_ 1 rfl) Tryd.underlying37 rfl (by kernel_rfl)) rfl ?_
   exact ⟨rfl, S.out.below⟩
end Go.Proofs.YtjnicgfkogfifaaDoor
end

section
/- MsgNames: one message written, one read. -/
namespace Go.Proofs.YtjnicgfkogfifaaDoor
open Go.RowKit Go.Proofs.YtjnicgfkogfifaaDoor.PAll Go.Proofs.YtjnicgfkogfifaaDoorW.PrintWords Go.Proofs.YtjnicgfkogfifaaDoorW.PrintLast

theorem R_bytes {w : World} {base : Nat} {ok : Nat → Prop} {v : Value} {xs : List UInt8} (h : Kd.R (Kd.int .u8) 5 w base ok v (iB xs)) : IsBytes w v xs := by
 obtain ⟨_, inner, ho, hr⟩ := h
 have e : inner = vals xs := by
  have hl := ho.1
  rw [show (Kd.int .u8).sz = 1 from rfl, Nat.mul_one, iB_length] at hl
  refine List.ext_getElem? fun i => ?_
  by_cases hi : i < xs.length
  · have h2 : (inner.drop (i * 1)).take 1 = [.int .u8 ((xs[i].toNat : Nat) : Int)] := hr.2 i _ (show (iB xs)[i]? = some ((xs[i].toNat : Nat) : Int) by simp [iB, hi])
    have h3 : inner[i]? = ((inner.drop (i * 1)).take 1)[0]? := by rw [Nat.mul_one, List.getElem?_take, if_pos (by omega), List.getElem?_drop, Nat.add_zero]
    rw [h3, h2]
    simp [vals, hi]
    rfl
  · rw [List.getElem?_eq_none (by omega), List.getElem?_eq_none (by rw [vals_length]; omega)]
 subst e
 exact IsBytes.own ho
abbrev o0 : OpV := ⟨0, 0, 0, 0, ⟨#[]⟩, [], 0, 0, false⟩
theorem o0_empty : EmIs o0 true := ⟨8, by kernel_rfl⟩
theorem o0_C (w : World) : OpC w (.slice none 0 0) o0 := ⟨none, 0, rfl, Nat.le_refl _, Kd.C_nil _ _⟩
theorem enc_fix : encNs [1, 5, 130] = [1, 5, 130, 1] := by
 simp only [encNs, List.flatMap_cons, List.flatMap_nil, encN_lt (show 1 < 128 by omega), encN_lt (show 5 < 128 by omega), encN_ge (show 128 ≤ 130 by omega)]
 rfl
theorem dec_fix : msgR chkL [1, 5, 130, 1] = .ok ⟨5, 130, .hello⟩ 4 := by
 have e : encM ⟨5, 130, .hello⟩ = [1, 5, 130, 1] := by
  have := enc_fix
  simp only [encNs, List.flatMap_cons, List.flatMap_nil, List.append_nil] at this
  simp only [encM, encMB, List.append_nil]
  exact this
 have h := msg_rt (chk := chkL) (m := ⟨5, 130, .hello⟩) ⟨⟨by decide, by decide⟩, ⟨by decide, by decide⟩, trivial⟩
 rw [e] at h
 exact h
section
variable {P : Program} {ops : Array Oper} {rest : List Oper} {o : Oper} {a : Act} {Q : Exit → Act → World → Prop} {w0 W : World} {bs : List Bx} {F : World → Prop} {N : Tmp}
theorem ev_byts (S : Aside0 (St w0 W bs F)) (cs : Array Value) (n : Nat) {ty : TypeId} {xs : Array (Nat × Operand)}
 (h : ∀ g w', Aside0 (St w0 w' ((g, 5, cs) :: bs) F) → wpList P ops Q rest (a.put (some N) (.slice (some ⟨g, 0, none⟩) n n)) w')
 (ho : o.op = .buildSlice ty n xs := by rfl) (hd : o.dst = some N := by rfl) (hw : Region.wanted o (yielded ops a.tmps) = true := by exact wanted_plain rfl)
 (hrun : (execOp a.eval o).run P W = .ok (.value (.slice (some ⟨W.heap.size, 0, none⟩) n n)) (W.alloc (.cells cs 5 (0, 0))) := by first | (go_simp; done) | (go_simp; rfl)) : wpList P ops Q (o :: rest) a W :=
 have _ := ho
 ev_run hw hrun (by rw [hd]; exact h _ _ ⟨S.out.push (below_alloc (Below.refl _ _) _) (blk_new W _) rfl⟩)
end
theorem byts_at {w : World} {g : Nat} {l : List UInt8} (h : w.heap[g]? = some (.cells (vals l).toArray 5 (0, 0))) : BytesAt w (some ⟨g, 0, none⟩) l := fun k hk => by
 refine ⟨g, 0, rfl, (Array.getElem?_eq_some_iff.1 h).1, ?_⟩
 rw [blk_cell h, Nat.zero_add]
 simp [vals, u8, hk, List.getD_eq_getElem?_getD]
set_option maxRecDepth 100000 in
set_option maxHeartbeats 4000000 in
theorem fixed_any (w : World) (hG : GW w) (hT : GF w) : Calls Tryd.prog 14 #[] w fun e w' => e = .returned (.bool true) ∧ Below w.heap.size w w' := by
 have S := Aside0.mk (St.init w (F := fun _ => True) (fun _ _ => trivial))
 have HT := Aside0.mk hT; have HG := Aside0.mk hG
 clear hT hG
 go_enter Tryd.func14, Tryd.ntmps14
 go_upto_region 3 with (first | (go_at_call 16; refine (encode_hello _ 5 130 0 o0 (.slice none 0 0) true 0 (HT.out.below S.out.below) (HG.out.below S.out.below) (o0_C _) o0_empty (fun h => absurd h (by decide)) (by decide) (by rw [enc_fix]; decide)).mono ?_; rintro e_ w7 ⟨v1, rfl, hR, hb⟩; rw [enc_fix, List.nil_append] at hR; obtain ⟨A1, c1, rfl⟩ := Kd.R_slice hR; replace S := Aside0.mk (S.out.addR hb hR); clear hb hR) | (refine ev_byts S #[.int .u8 1, .int .u8 5, .int .u8 130, .int .u8 1] 4 ?_; clear S; intro gl _ S) | (go_at_call 17; refine (decode_any _ (some ⟨gl, 0, none⟩) 4 [1, 5, 130, 1] (byts_at (S.out.at_ 0 rfl)) (HG.out.below S.out.below) (HT.out.below S.out.below) (by decide) (by decide) (by decide)).mono ?_; rw [dec_fix]; rintro e_ w7 ⟨v2, rfl, hR, hb⟩; obtain ⟨A2, c2, rfl⟩ := Kd.R_slice hR; replace S := Aside0.mk (S.out.step hb); clear hb hR) | ((with_reducible refine gate_new rfl ?_); refine ev_new S 37 zM ?_; clear S; intro gm _ S) | ((with_reducible refine gate_st rfl ?_); refine ev_store S ?_; clear S; intro _ S))
 have hb := R_bytes S.out.now.2
 have hcv := conv_back (P := Tryd.prog) (src := 39) (dst := 9) Tryd.underlying39 Tryd.underlying5 Tryd.underlying9 hb
 clear hb
 replace hcv : (convert 39 9 (.slice A1 4 c1)).run Tryd.prog _ = .ok (.string ⟨#[1, 5, 130, 1]⟩) _ := hcv
 replace S := Aside0.mk (show St w _ ((gm, 37, mcells 1 5 130 0 z35) :: _) _ from S.out)
 go_wp2_with (first | ((with_reducible refine gate_load rfl ?_); first | refine ev_load S ?_ | refine ev_fld S ?_))
 go_ret
 exact ⟨rfl, S.out.below⟩
theorem MsgNames_any (w : World) (hG : GW w) (hT : GF w) : Calls Tryd.prog 3 #[] w fun e w' => e = .returned (.bool true) ∧ Below w.heap.size w w' := by
 have S := Aside0.mk (St.init w (F := fun _ => True) (fun _ _ => trivial))
 have HT := Aside0.mk hT; have HG := Aside0.mk hG
 clear hT hG
 go_enter Tryd.func3, Tryd.ntmps3
 go_wp2_with (go_at_call 14; refine (fixed_any _ HG.out HT.out).mono ?_; rintro e_ w7 ⟨rfl, hb⟩; replace S := Aside0.mk (S.out.step hb))
 go_ret
 exact ⟨rfl, S.out.below⟩
end Go.Proofs.YtjnicgfkogfifaaDoor
end
