/- MsgNames_card, part 31. -/
import Derived.Test.YtjnicgfkogfifaaDoorQNa18
import Derived.Test.YtjnicgfkogfifaaDoorQNa19
import Derived.Test.YtjnicgfkogfifaaDoorQNa20
import Derived.Test.YtjnicgfkogfifaaDoorQNa21
import Derived.Laws.BytesArg
import Derived.Laws.IdiomStrings
import Derived.Recover

section
/- The reader of msg: a Status' fields. -/
namespace Go.Proofs.YtjnicgfkogfifaaDoor
open Go.RowKit Go.Proofs.YtjnicgfkogfifaaDoor.PAll Go.Proofs.YtjnicgfkogfifaaDoorW.PrintWords Go.Proofs.YtjnicgfkogfifaaDoorW.PrintLast
attribute [local go_sem high] eqA29

abbrev opv (c s k p : Int) (t : ByteArray) (v : Value) (a b : Int) (on : Bool) : Array Value := #[.int .i64 c, .int .i64 s, .int .i64 k, .int .i64 p, .string t, v, .int .i64 a, .int .i64 b, .bool on]
def s54 (p : Nat × Nat) : S54 := ⟨p.1, p.2⟩
def bodyA (c s : Int) (b : Body) (v : Value) : Array Value :=
 match b with
 | .ins p t => opv c s 1 p ⟨t.toArray⟩ v 0 0 false
 | .hide _ => opv c s 2 0 ⟨#[]⟩ v 0 0 false
 | .status a b on => opv c s 4 0 ⟨#[]⟩ v a b on
def bodyL (b : Body) : List S54 :=
 match b with
 | .hide l => l.map s54
 | _ => []
def GotB (w0 : World) (bs : List Bx) (F : World → Prop) (g go : Nat) (A : Option Addr) (n cap : Nat) (c s : Int) (r : Rd Body) (e : Ending) (w' : World) : Prop :=
 match r with
 | .ok b j => ∃ v, e = .returned (.tuple #[]) ∧ St w0 w' ((g, 93, rdA A n cap j) :: (go, 35, bodyA c s b v) :: bs) (fun W => F W ∧ Kd.R k54 54 W w0.heap.size (fun _ => True) v (bodyL b))
 | .bad p er => e = flt p er ∧ ∃ cs cs', St w0 w' ((g, 93, cs) :: (go, 35, cs') :: bs) F
theorem St.addNil {w0 w : World} {bs : List Bx} {F : World → Prop} (S : St w0 w bs F) : St w0 w bs (fun W => F W ∧ Kd.R k54 54 W w0.heap.size (fun _ => True) (.slice none 0 0) []) := S.weak fun _ h => ⟨h, Kd.R_nil _ _ _ _ _⟩
theorem gotB_bad {w0 w : World} {bs : List Bx} {F : World → Prop} {g go : Nat} {A : Option Addr} {n cap : Nat} {c s : Int} {p e : Int} {cs cs' : Array Value} {r : Rd Body} (h : r = .bad p e) (S : St w0 w ((g, 93, cs) :: (go, 35, cs') :: bs) F) : GotB w0 bs F g go A n cap c s r (flt p e) w := by rw [h]; exact ⟨rfl, cs, cs', S⟩
set_option maxRecDepth 100000 in
set_option maxHeartbeats 4000000 in
theorem status_any (w0 w : World) (bs : List Bx) (F : World → Prop) (g go : Nat) (A : Option Addr) (cap i c s : Nat) (xs : List UInt8) (S : St w0 w ((g, 93, rdA A xs.length cap i) :: (go, 35, opv c s 4 0 ⟨#[]⟩ (.slice none 0 0) 0 0 false) :: bs) F) (hF : ∀ W, F W → BytesAt W A xs) (hi : i ≤ xs.length) (hl : xs.length ≤ 140737488351232) :
 Calls Tryd.prog 57 #[.pointer (some ⟨g, 0, none⟩), .pointer (some ⟨go, 0, none⟩)] w (GotB w0 bs F g go A xs.length cap c s (statusR c s xs i)) := by
 have HF := Aside0.mk hF
 replace S := Aside0.mk S
 clear hF
 rcases hr : betw 1 8 63 xs i with ⟨a, j⟩ | ⟨p, q⟩
 · have hj := (betw_ok hr).2.2.2
   have HR := Aside0.mk hr
   rcases hr2 : betw 1 1024 63 xs j with ⟨b, l⟩ | ⟨p, q⟩
   · have hl2 := (betw_ok hr2).2.2.2
     have HR2 := Aside0.mk hr2
     by_cases he : a = c ∧ b = s
     · have HW := Aside0.mk (show statusR c s xs i = .bad j 63 by unfold statusR; rw [hr, Rd.bind_ok, hr2, Rd.bind_ok, if_pos he])
       obtain ⟨rfl, rfl⟩ := he
       clear hr hr2
       go_enter Tryd.func57, Tryd.ntmps57
       go_upto_region 3 with (first | ((with_reducible refine gate_load rfl ?_); refine ev_fld S ?_) | (go_at_call 49; (with_reducible refine (between_any _ _ _ _ _ _ _ _ xs 1 8 _ _ _ S.out HF.out hi hl (by omega) (by omega)).mono ?_); rw [HR.out]; rintro e_ w7 ⟨rfl, S'⟩; replace S := Aside0.mk S'; clear S') | (go_at_call 49; (with_reducible refine (between_any _ _ _ _ _ _ _ _ xs 1 1024 _ _ _ S.out HF.out hj hl (by omega) (by omega)).mono ?_); rw [HR2.out]; rintro e_ w7 ⟨rfl, S'⟩; replace S := Aside0.mk S'; clear S') | ((with_reducible refine gate_st rfl ?_); (first | refine ev_set2 S ?_ | refine ev_set S ?_); clear S; intro _ S))
       refine rg_start (n := 10) (fun W => St w0 W _ F) [] S.out (fun _ h => h.drew) ?_
       clear S
       intro _ S
       refine pu_ 0 ?_; refine pu_ 1 ?_; refine pu_ 2 ?_; refine le_ 3 #[.int .i64 (a : Int), .int .i64 (b : Int)] S (fun _ h => h.two 1 6 rfl rfl rfl) ?_; refine pu_ 4 ?_; refine pu_ 5 ?_; refine pu_ 6 ?_; refine pu_ 7 ?_; refine le_ 8 #[.int .i64 (a : Int), .int .i64 (b : Int)] S (fun _ h => h.two 1 0 rfl rfl rfl) ?_; refine pu_ 9 ?_; refine done_ (by kernel_rfl) ?_; replace S := Aside0.mk S
       go_wp2_with (first | ((with_reducible refine gate_load rfl ?_); refine ev_fld S ?_))
       exact ⟨rfl, gotB_bad HW.out S.out⟩
     · have hne : ((a : Int) == (c : Int) && ((b : Int) == (s : Int))) = false := by
        rw [Bool.and_eq_false_iff, beq_eq_false_iff_ne, beq_eq_false_iff_ne]; omega
       rcases hr3 : betw 0 1 104 xs l with ⟨o, m⟩ | ⟨p, q⟩
       · have ho := (betw_ok hr3).1.2.1
         have HR3 := Aside0.mk hr3
         have HW := Aside0.mk (show statusR c s xs i = .ok (.status a b (decide (o = 1))) m by unfold statusR; rw [hr, Rd.bind_ok, hr2, Rd.bind_ok, if_neg he, hr3]; rfl)
         clear hr hr2 hr3
         go_enter Tryd.func57, Tryd.ntmps57
         go_upto_region 3 with (first | ((with_reducible refine gate_load rfl ?_); refine ev_fld S ?_) | (go_at_call 49; (with_reducible refine (between_any _ _ _ _ _ _ _ _ xs 1 8 _ _ _ S.out HF.out hi hl (by omega) (by omega)).mono ?_); rw [HR.out]; rintro e_ w7 ⟨rfl, S'⟩; replace S := Aside0.mk S'; clear S') | (go_at_call 49; (with_reducible refine (between_any _ _ _ _ _ _ _ _ xs 1 1024 _ _ _ S.out HF.out hj hl (by omega) (by omega)).mono ?_); rw [HR2.out]; rintro e_ w7 ⟨rfl, S'⟩; replace S := Aside0.mk S'; clear S') | ((with_reducible refine gate_st rfl ?_); (first | refine ev_set2 S ?_ | refine ev_set S ?_); clear S; intro _ S))
         refine rg_start (n := 10) (fun W => St w0 W _ F) [] S.out (fun _ h => h.drew) ?_
         clear S
         intro _ S
         refine pu_ 0 ?_; refine pu_ 1 ?_; refine pu_ 2 ?_; refine le_ 3 #[.int .i64 (a : Int), .int .i64 (b : Int)] S (fun _ h => h.two 1 6 rfl rfl rfl) ?_; refine pu_ 4 ?_; refine pu_ 5 ?_; refine pu_ 6 ?_; refine pu_ 7 ?_; refine le_ 8 #[.int .i64 (c : Int), .int .i64 (s : Int)] S (fun _ h => h.two 1 0 rfl rfl rfl) ?_; refine pu_ 9 ?_; refine done_ (by kernel_rfl) ?_; replace S := Aside0.mk S
         go_wp2_with (first | ((with_reducible refine gate_load rfl ?_); refine ev_fld S ?_) | (go_at_call 49; (with_reducible refine (between_any _ _ _ _ _ _ _ _ xs 0 1 _ _ _ S.out HF.out hl2 hl (by omega) (by omega)).mono ?_); rw [HR3.out]; rintro e_ w7 ⟨rfl, S'⟩; replace S := Aside0.mk S'; clear S') | ((with_reducible refine gate_st rfl ?_); (first | refine ev_set2 S ?_ | refine ev_set S ?_); clear S; intro _ S))
         refine ⟨rfl, .tuple #[], by simp [results, Tryd.results57], ?_⟩
         rw [HW.out]
         have hb : ((o : Int) == 1) = decide (o = 1) := by
          have : o = 0 ∨ o = 1 := by omega
          rcases this with rfl | rfl <;> rfl
         rw [hb] at S
         exact ⟨_, rfl, St.addNil S.out⟩
       · have HR3 := Aside0.mk hr3
         have HW := Aside0.mk (show statusR c s xs i = .bad p q by unfold statusR; rw [hr, Rd.bind_ok, hr2, Rd.bind_ok, if_neg he, hr3]; rfl)
         clear hr hr2 hr3
         go_enter Tryd.func57, Tryd.ntmps57
         go_upto_region 3 with (first | ((with_reducible refine gate_load rfl ?_); refine ev_fld S ?_) | (go_at_call 49; (with_reducible refine (between_any _ _ _ _ _ _ _ _ xs 1 8 _ _ _ S.out HF.out hi hl (by omega) (by omega)).mono ?_); rw [HR.out]; rintro e_ w7 ⟨rfl, S'⟩; replace S := Aside0.mk S'; clear S') | (go_at_call 49; (with_reducible refine (between_any _ _ _ _ _ _ _ _ xs 1 1024 _ _ _ S.out HF.out hj hl (by omega) (by omega)).mono ?_); rw [HR2.out]; rintro e_ w7 ⟨rfl, S'⟩; replace S := Aside0.mk S'; clear S') | ((with_reducible refine gate_st rfl ?_); (first | refine ev_set2 S ?_ | refine ev_set S ?_); clear S; intro _ S))
         refine rg_start (n := 10) (fun W => St w0 W _ F) [] S.out (fun _ h => h.drew) ?_
         clear S
         intro _ S
         refine pu_ 0 ?_; refine pu_ 1 ?_; refine pu_ 2 ?_; refine le_ 3 #[.int .i64 (a : Int), .int .i64 (b : Int)] S (fun _ h => h.two 1 6 rfl rfl rfl) ?_; refine pu_ 4 ?_; refine pu_ 5 ?_; refine pu_ 6 ?_; refine pu_ 7 ?_; refine le_ 8 #[.int .i64 (c : Int), .int .i64 (s : Int)] S (fun _ h => h.two 1 0 rfl rfl rfl) ?_; refine pu_ 9 ?_; refine done_ (by kernel_rfl) ?_; replace S := Aside0.mk S
         go_wp2_with (first | ((with_reducible refine gate_load rfl ?_); refine ev_fld S ?_) | (go_at_call 49; (with_reducible refine (between_any _ _ _ _ _ _ _ _ xs 0 1 _ _ _ S.out HF.out hl2 hl (by omega) (by omega)).mono ?_); rw [HR3.out]; rintro e_ w7 ⟨rfl, cs_, S'⟩; replace S := Aside0.mk S'; clear S') | ((with_reducible refine gate_st rfl ?_); (first | refine ev_set2 S ?_ | refine ev_set S ?_); clear S; intro _ S))
         exact ⟨rfl, gotB_bad HW.out S.out⟩
   · have HW := Aside0.mk (show statusR c s xs i = .bad p q by unfold statusR; rw [hr, Rd.bind_ok, hr2]; rfl)
     have HR2 := Aside0.mk hr2
     clear hr hr2
     go_enter Tryd.func57, Tryd.ntmps57
     go_wp2_with (first | ((with_reducible refine gate_load rfl ?_); refine ev_fld S ?_) | (go_at_call 49; (with_reducible refine (between_any _ _ _ _ _ _ _ _ xs 1 8 _ _ _ S.out HF.out hi hl (by omega) (by omega)).mono ?_); rw [HR.out]; rintro e_ w7 ⟨rfl, S'⟩; replace S := Aside0.mk S'; clear S') | (go_at_call 49; (with_reducible refine (between_any _ _ _ _ _ _ _ _ xs 1 1024 _ _ _ S.out HF.out hj hl (by omega) (by omega)).mono ?_); rw [HR2.out]; rintro e_ w7 ⟨rfl, cs_, S'⟩; replace S := Aside0.mk S'; clear S') | ((with_reducible refine gate_st rfl ?_); (first | refine ev_set2 S ?_ | refine ev_set S ?_); clear S; intro _ S))
     exact ⟨rfl, gotB_bad HW.out S.out⟩
 · have HW := Aside0.mk (show statusR c s xs i = .bad p q by unfold statusR; rw [hr]; rfl)
   have HR := Aside0.mk hr
   clear hr
   go_enter Tryd.func57, Tryd.ntmps57
   go_wp2_with (first | ((with_reducible refine gate_load rfl ?_); refine ev_fld S ?_) | (go_at_call 49; (with_reducible refine (between_any _ _ _ _ _ _ _ _ xs 1 8 _ _ _ S.out HF.out hi hl (by omega) (by omega)).mono ?_); rw [HR.out]; rintro e_ w7 ⟨rfl, cs_, S'⟩; replace S := Aside0.mk S'; clear S'))
   exact ⟨rfl, gotB_bad HW.out S.out⟩
end Go.Proofs.YtjnicgfkogfifaaDoor
end

section
/- string(b), []byte(s): the conversions' runs over lists of bytes. For any program. -/
namespace Go.Proofs.YtjnicgfkogfifaaDoor
open Go.RowKit

theorem conv_back {P : Program} {w : World} {src dst e : TypeId} (hs : P.underlying src = some (.slice e)) (he : P.underlying e = some (.int .u8)) (hd : P.underlying dst = some .string) {v : Value} {l : List UInt8} (h : IsBytes w v l) :
 (convert src dst v).run P w = .ok (.string ⟨l.toArray⟩) w := by
 obtain ⟨A, c, rfl, hb, _⟩ := h
 cases A with
 | none =>
  have hl : l = [] := by
   cases l with
   | nil => rfl
   | cons x l => obtain ⟨b, o, h, _⟩ := hb 0 (by simp); cases h
  subst hl
  rw [run_convert_bytes_nil w src e hs he _ _ dst hd]
  rfl
 | some a =>
  refine run_convert_bytes_back w src dst e a c l hs he hd fun j hj => ?_
  obtain ⟨b, o, hA, _, h1⟩ := hb j hj
  cases hA
  have : (⟨b, o, none⟩ : Addr).add j = ⟨b, o + j, none⟩ := by unfold Addr.add; split <;> simp_all
  rw [this, h1, List.getD_eq_getElem?_getD, List.getElem?_eq_getElem hj]
  rfl

def BytesRow (w : World) (base : Nat) (e : TypeId) (v : Value) (l : List UInt8) : Prop :=
 ∃ b c C fr, v = .slice (some ⟨b, 0, none⟩) l.length c ∧ base ≤ b ∧ w.heap[b]? = some (.cells C e fr) ∧ (∀ k, k < l.length → C[k]? = some (.int .u8 ((l.getD k 0).toNat : Int))) ∧ l.length ≤ c ∧ c ≤ 9223372036854775807
theorem BytesRow.block {w w' : World} {base : Nat} {e : TypeId} {v : Value} {l : List UInt8} (h : BytesRow w base e v l) (hk : ∀ b, b < w.heap.size → v.ownBlock = some b → w'.heap[b]? = w.heap[b]?) : BytesRow w' base e v l := by
 obtain ⟨b, c, C, fr, rfl, hb, hh, hc, h1, h2⟩ := h
 exact ⟨b, c, C, fr, rfl, hb, (hk b (Array.getElem?_eq_some_iff.1 hh).1 rfl).trans hh, hc, h1, h2⟩
theorem BytesRow.kept {w w' : World} {base : Nat} {e : TypeId} {v : Value} {l : List UInt8} (h : BytesRow w base e v l) (hb : Below w.heap.size w w') : BytesRow w' base e v l := h.block fun k hk _ => hb.block k hk
theorem BytesRow.mono {w : World} {base base' : Nat} {e : TypeId} {v : Value} {l : List UInt8} (h : BytesRow w base e v l) (hb : base' ≤ base) : BytesRow w base' e v l := by
 obtain ⟨b, c, C, fr, h1, h2, h3⟩ := h
 exact ⟨b, c, C, fr, h1, by omega, h3⟩
end Go.Proofs.YtjnicgfkogfifaaDoor
end

section
/- The reader of msg: an Ins' fields. -/
namespace Go.Proofs.YtjnicgfkogfifaaDoor
open Go.RowKit Go.Proofs.YtjnicgfkogfifaaDoor.PAll Go.Proofs.YtjnicgfkogfifaaDoorW.PrintWords Go.Proofs.YtjnicgfkogfifaaDoorW.PrintLast

def chkL (t : List UInt8) : Int × Int × Int := chkFrom ⟨t.toArray⟩ (⟨t.toArray⟩ : ByteArray).size 0 0
theorem chk_range (s : ByteArray) : ∀ (f pos : Nat) (n : Int), 0 ≤ n → n + f ≤ 4611686018427387904 → 0 ≤ (chkFrom s f pos n).1 ∧ (chkFrom s f pos n).1 ≤ n + f ∧ 0 ≤ (chkFrom s f pos n).2.1 ∧ (chkFrom s f pos n).2.1 ≤ s.size
 | 0, pos, n, h0, h1 => by
  unfold chkFrom
  exact ⟨h0, by show n ≤ n + ((0 : Nat) : Int); omega, by show (0 : Int) ≤ 0; omega, by show (0 : Int) ≤ _; omega⟩
 | f + 1, pos, n, h0, h1 => by
  unfold chkFrom
  have hw : wrap64 (n + 1) = n + 1 := wrap_id (by omega) (by omega)
  split
  · rename_i hp
    split
    · split
      · have := chk_range s f (pos + (Utf8.decode s pos).2) (n + 1) (by omega) (by omega)
        rw [hw]
        exact ⟨this.1, by omega, this.2.2⟩
      · exact ⟨by show (0 : Int) ≤ 0; omega, by show (0 : Int) ≤ _; omega, by show (0 : Int) ≤ (pos : Int); omega, by show (pos : Int) ≤ _; omega⟩
    · exact ⟨by show (0 : Int) ≤ 0; omega, by show (0 : Int) ≤ _; omega, by show (0 : Int) ≤ (pos : Int); omega, by show (pos : Int) ≤ _; omega⟩
  · exact ⟨h0, by show n ≤ _; omega, by show (0 : Int) ≤ 0; omega, by show (0 : Int) ≤ _; omega⟩
theorem chkL_range (t : List UInt8) (h : t.length ≤ 1048576) : 0 ≤ (chkL t).1 ∧ (chkL t).1 ≤ t.length ∧ 0 ≤ (chkL t).2.1 ∧ (chkL t).2.1 ≤ t.length := by
 have hs : (⟨t.toArray⟩ : ByteArray).size = t.length := by simp [ByteArray.size]
 have := chk_range ⟨t.toArray⟩ (⟨t.toArray⟩ : ByteArray).size 0 0 (by omega) (by omega)
 unfold chkL
 rw [hs] at this ⊢
 omega
theorem isBytes_part {W : World} {b o cap l n : Nat} {xs : List UInt8} (h : BytesAt W (some ⟨b, o, none⟩) xs) (hl : l + n ≤ xs.length) (hc : xs.length ≤ cap) (hc2 : cap ≤ 9223372036854775807) : IsBytes W (.slice (some ⟨b, o + l, none⟩) n (cap - l)) ((xs.drop l).take n) := by
 have hn : ((xs.drop l).take n).length = n := by rw [List.length_take, List.length_drop]; omega
 exact ⟨_, cap - l, by rw [hn], (h.drop l).take n, (fun h => by cases h), by rw [hn]; omega, by omega⟩
set_option maxRecDepth 100000 in
set_option maxHeartbeats 4000000 in
theorem ins_any (w0 w : World) (bs : List Bx) (F : World → Prop) (g go : Nat) (A : Option Addr) (cap i c s : Nat) (xs : List UInt8) (S : St w0 w ((g, 93, rdA A xs.length cap i) :: (go, 35, opv c s 1 0 ⟨#[]⟩ (.slice none 0 0) 0 0 false) :: bs) F) (hF : ∀ W, F W → BytesAt W A xs) (hG : ∀ W, F W → GW W) (hi : i ≤ xs.length) (hl : xs.length ≤ 140737488351232) (hcap : xs.length ≤ cap) (hcap2 : cap ≤ 9223372036854775807) :
 Calls Tryd.prog 55 #[.pointer (some ⟨g, 0, none⟩), .pointer (some ⟨go, 0, none⟩)] w (GotB w0 bs F g go A xs.length cap c s (insR chkL xs i)) := by
 have HF := Aside0.mk hF
 have HG := Aside0.mk hG
 replace S := Aside0.mk S
 clear hF hG
 rcases hr : betw 0 1048576 12 xs i with ⟨p, j⟩ | ⟨p, q⟩
 · have hj := (betw_ok hr).2.2.2
   have hp := (betw_ok hr).1.2.1
   have HR := Aside0.mk hr
   rcases hr2 : num xs j with ⟨n, l⟩ | ⟨p, q⟩
   · have hl2 := (num_ok hr2).2.2.2
     have hn := (num_ok hr2).1
     have HR2 := Aside0.mk hr2
     have hu : insR chkL xs i = if n = 0 then .bad j 15 else if 1024 < n then .bad j 14 else textR chkL p n xs l := by unfold insR; rw [hr, Rd.bind_ok, hr2, Rd.bind_ok]
     clear hr hr2
     by_cases c0 : n = 0
     · rw [if_pos c0] at hu
       have HW := Aside0.mk hu
       subst c0
       clear hu
       go_enter Tryd.func55, Tryd.ntmps55
       go_wp2_with (first | ((with_reducible refine gate_load rfl ?_); refine ev_fld S ?_) | (go_at_call 49; (with_reducible refine (between_any _ _ _ _ _ _ _ _ xs 0 1048576 _ _ _ S.out HF.out hi hl (by omega) (by omega)).mono ?_); rw [HR.out]; rintro e_ w7 ⟨rfl, S'⟩; replace S := Aside0.mk S'; clear S') | (go_at_call 53; (with_reducible refine (number_any _ _ _ _ _ _ _ _ xs S.out HF.out hj hl).mono ?_); rw [HR2.out]; rintro e_ w7 ⟨rfl, S'⟩; replace S := Aside0.mk S'; clear S') | ((with_reducible refine gate_st rfl ?_); refine ev_set S ?_; clear S; intro _ S))
       exact ⟨rfl, gotB_bad HW.out S.out⟩
     · rw [if_neg c0] at hu
       by_cases c1 : 1024 < n
       · rw [if_pos c1] at hu
         have HW := Aside0.mk hu
         replace c1 : decide ((1024 : Int) < (n : Int)) = true := decide_eq_true (by omega)
         clear hu
         go_enter Tryd.func55, Tryd.ntmps55
         go_wp2_with (first | ((with_reducible refine gate_load rfl ?_); refine ev_fld S ?_) | (go_at_call 49; (with_reducible refine (between_any _ _ _ _ _ _ _ _ xs 0 1048576 _ _ _ S.out HF.out hi hl (by omega) (by omega)).mono ?_); rw [HR.out]; rintro e_ w7 ⟨rfl, S'⟩; replace S := Aside0.mk S'; clear S') | (go_at_call 53; (with_reducible refine (number_any _ _ _ _ _ _ _ _ xs S.out HF.out hj hl).mono ?_); rw [HR2.out]; rintro e_ w7 ⟨rfl, S'⟩; replace S := Aside0.mk S'; clear S') | ((with_reducible refine gate_st rfl ?_); refine ev_set S ?_; clear S; intro _ S))
         exact ⟨rfl, gotB_bad HW.out S.out⟩
       · rw [if_neg c1] at hu
         have hn2 : n ≤ 1024 := by omega
         replace c1 : decide ((1024 : Int) < (n : Int)) = false := decide_eq_false (by omega)
         have hw : IntKind.i64.wrap ((xs.length : Int) - (l : Int)) = (xs.length : Int) - (l : Int) := IntWalk.i64_in _ (by omega)
         unfold textR at hu
         by_cases c2 : xs.length < l + n
         · rw [if_pos c2] at hu
           have HW := Aside0.mk hu
           clear hu
           have q2 : decide ((xs.length : Int) - (l : Int) < (n : Int)) = true := decide_eq_true (by omega)
           go_enter Tryd.func55, Tryd.ntmps55
           go_upto_region 7 with (first | ((with_reducible refine gate_load rfl ?_); refine ev_fld S ?_) | (go_at_call 49; (with_reducible refine (between_any _ _ _ _ _ _ _ _ xs 0 1048576 _ _ _ S.out HF.out hi hl (by omega) (by omega)).mono ?_); rw [HR.out]; rintro e_ w7 ⟨rfl, S'⟩; replace S := Aside0.mk S'; clear S') | (go_at_call 53; (with_reducible refine (number_any _ _ _ _ _ _ _ _ xs S.out HF.out hj hl).mono ?_); rw [HR2.out]; rintro e_ w7 ⟨rfl, S'⟩; replace S := Aside0.mk S'; clear S') | ((with_reducible refine gate_st rfl ?_); refine ev_set S ?_; clear S; intro _ S))
           refine rg_start (n := 13) (fun W => St w0 W _ F) [] S.out (fun _ h => h.drew) ?_
           clear S
           intro _ S
           refine pu_ 0 ?_; refine pu_ 1 ?_; refine pu_ 2 ?_; refine pu_ 3 ?_; refine fl_ 4 0 S ?_; refine pu_ 5 ?_; refine pu_ 6 ?_; refine pu_ 7 ?_; refine pu_ 8 ?_; refine fl_ 9 0 S ?_; refine pu_ 10 ?_; refine pu_ 11 ?_; refine pu_ 12 ?_; refine done_ (by kernel_rfl) ?_; replace S := Aside0.mk S
           go_wp2_with (first | ((with_reducible refine gate_load rfl ?_); refine ev_fld S ?_))
           exact ⟨rfl, gotB_bad HW.out S.out⟩
         · rw [if_neg c2] at hu
           have q2 : decide ((xs.length : Int) - (l : Int) < (n : Int)) = false := decide_eq_false (by omega)
           obtain ⟨t, ht⟩ : ∃ t, t = (xs.drop l).take n := ⟨_, rfl⟩
           rw [← ht] at hu
           obtain ⟨b, o, rfl, _, _⟩ := HF.out _ S.out.now l (by omega)
           have HU := Aside0.mk hu
           have HT := Aside0.mk ht
           clear hu ht
           go_enter Tryd.func55, Tryd.ntmps55
           go_upto_region 7 with (first | ((with_reducible refine gate_load rfl ?_); refine ev_fld S ?_) | (go_at_call 49; (with_reducible refine (between_any _ _ _ _ _ _ _ _ xs 0 1048576 _ _ _ S.out HF.out hi hl (by omega) (by omega)).mono ?_); rw [HR.out]; rintro e_ w7 ⟨rfl, S'⟩; replace S := Aside0.mk S'; clear S') | (go_at_call 53; (with_reducible refine (number_any _ _ _ _ _ _ _ _ xs S.out HF.out hj hl).mono ?_); rw [HR2.out]; rintro e_ w7 ⟨rfl, S'⟩; replace S := Aside0.mk S'; clear S') | ((with_reducible refine gate_st rfl ?_); refine ev_set S ?_; clear S; intro _ S))
           refine rg_start (n := 13) (fun W => St w0 W _ F) [] S.out (fun _ h => h.drew) ?_
           clear S
           intro _ S
           refine pu_ 0 ?_; refine pu_ 1 ?_; refine pu_ 2 ?_; refine pu_ 3 ?_; refine fl_ 4 0 S ?_; refine pu_ 5 ?_; refine pu_ 6 ?_; refine pu_ 7 ?_; refine pu_ 8 ?_; refine fl_ 9 0 S ?_; refine pu_ 10 ?_; refine pu_ 11 ?_; refine pu_ 12 ?_; refine done_ (by kernel_rfl) ?_; replace S := Aside0.mk S
           go_upto_region 10 with (first | ((with_reducible refine gate_load rfl ?_); refine ev_fld S ?_))
           have hcv : ∀ W, F W → (convert 39 9 (.slice (some ⟨b, o + l, none⟩) n (cap - l))).run Tryd.prog W = .ok (.string ⟨t.toArray⟩) W := fun W hW => by
            have := conv_back (P := Tryd.prog) (src := 39) (dst := 9) Tryd.underlying39 Tryd.underlying5 Tryd.underlying9 (isBytes_part (l := l) (n := n) (HF.out W hW) (by omega) hcap hcap2)
            rw [← HT.out] at this
            exact this
           have hcw := hcv _ S.out.now
           clear hcv
           obtain ⟨k1, hk1⟩ : ∃ k, k = (chkL t).1 := ⟨_, rfl⟩
           obtain ⟨k2, hk2⟩ : ∃ k, k = (chkL t).2.1 := ⟨_, rfl⟩
           obtain ⟨k3, hk3⟩ : ∃ k, k = (chkL t).2.2 := ⟨_, rfl⟩
           have hrg := chkL_range t (by rw [HT.out, List.length_take]; omega)
           have htl : t.length ≤ 1024 := by rw [HT.out, List.length_take]; omega
           have HU2 := HU.out
           rw [← hk1, ← hk2] at hrg
           rw [← hk1, ← hk2, ← hk3] at HU2
           have HK := Aside0.mk (show utext_Check.f ⟨t.toArray⟩ = some (k1, k2, k3) by rw [hk1, hk2, hk3]; rfl)
           clear hk1 hk2 hk3 HU
           have w1 : IntKind.i64.wrap ((l : Int) + k2) = (l : Int) + k2 := IntWalk.i64_in _ (by omega)
           have w2 : IntKind.i64.wrap ((p : Int) + k1) = (p : Int) + k1 := IntWalk.i64_in _ (by omega)
           by_cases c3 : k3 ≠ 0
           · rw [if_pos c3] at HU2
             have HW := Aside0.mk HU2
             have q3 : (k3 != 0) = true := bne_iff_ne.mpr c3
             clear HU2 c3
             go_wp2_with (first | ((with_reducible refine gate_load rfl ?_); refine ev_fld S ?_) | ((with_reducible refine gate_st rfl ?_); refine ev_set S ?_; clear S; intro _ S) | (go_at_call 71; refine (utext_Check.calls _ _ _ _ _ (HG.out _ S.out.now) HK.out).mono ?_; rintro e_ w7 ⟨rfl, hb_⟩; replace S := Aside0.mk (S.out.step hb_); clear hb_))
             exact ⟨rfl, gotB_bad HW.out S.out⟩
           · rw [if_neg c3] at HU2
             obtain rfl : k3 = 0 := Decidable.of_not_not c3
             clear c3
             by_cases c4 : 256 < k1
             · rw [if_pos c4] at HU2
               have HW := Aside0.mk HU2
               replace c4 := decide_eq_true c4
               clear HU2
               go_wp2_with (first | ((with_reducible refine gate_load rfl ?_); refine ev_fld S ?_) | ((with_reducible refine gate_st rfl ?_); refine ev_set S ?_; clear S; intro _ S) | (go_at_call 71; refine (utext_Check.calls _ _ _ _ _ (HG.out _ S.out.now) HK.out).mono ?_; rintro e_ w7 ⟨rfl, hb_⟩; replace S := Aside0.mk (S.out.step hb_); clear hb_))
               exact ⟨rfl, gotB_bad HW.out S.out⟩
             · rw [if_neg c4] at HU2
               replace c4 := decide_eq_false c4
               by_cases c5 : 1048576 < (p : Int) + k1
               · rw [if_pos c5] at HU2
                 have HW := Aside0.mk HU2
                 replace c5 := decide_eq_true c5
                 clear HU2
                 go_wp2_with (first | ((with_reducible refine gate_load rfl ?_); refine ev_fld S ?_) | ((with_reducible refine gate_st rfl ?_); refine ev_set S ?_; clear S; intro _ S) | (go_at_call 71; refine (utext_Check.calls _ _ _ _ _ (HG.out _ S.out.now) HK.out).mono ?_; rintro e_ w7 ⟨rfl, hb_⟩; replace S := Aside0.mk (S.out.step hb_); clear hb_))
                 exact ⟨rfl, gotB_bad HW.out S.out⟩
               · rw [if_neg c5] at HU2
                 have HW := Aside0.mk HU2
                 replace c5 := decide_eq_false c5
                 clear HU2
                 go_wp2_with (first | ((with_reducible refine gate_load rfl ?_); refine ev_fld S ?_) | ((with_reducible refine gate_st rfl ?_); refine ev_set S ?_; clear S; intro _ S) | (go_at_call 71; refine (utext_Check.calls _ _ _ _ _ (HG.out _ S.out.now) HK.out).mono ?_; rintro e_ w7 ⟨rfl, hb_⟩; replace S := Aside0.mk (S.out.step hb_); clear hb_))
                 refine ⟨rfl, .tuple #[], by simp [results, Tryd.results55], ?_⟩
                 rw [HW.out]
                 exact ⟨_, rfl, St.addNil S.out⟩
   · have HW := Aside0.mk (show insR chkL xs i = .bad p q by unfold insR; rw [hr, Rd.bind_ok, hr2]; rfl)
     have HR2 := Aside0.mk hr2
     clear hr hr2
     go_enter Tryd.func55, Tryd.ntmps55
     go_wp2_with (first | ((with_reducible refine gate_load rfl ?_); refine ev_fld S ?_) | (go_at_call 49; (with_reducible refine (between_any _ _ _ _ _ _ _ _ xs 0 1048576 _ _ _ S.out HF.out hi hl (by omega) (by omega)).mono ?_); rw [HR.out]; rintro e_ w7 ⟨rfl, S'⟩; replace S := Aside0.mk S'; clear S') | (go_at_call 53; (with_reducible refine (number_any _ _ _ _ _ _ _ _ xs S.out HF.out hj hl).mono ?_); rw [HR2.out]; rintro e_ w7 ⟨rfl, cs_, S'⟩; replace S := Aside0.mk S'; clear S') | ((with_reducible refine gate_st rfl ?_); refine ev_set S ?_; clear S; intro _ S))
     exact ⟨rfl, gotB_bad HW.out S.out⟩
 · have HW := Aside0.mk (show insR chkL xs i = .bad p q by unfold insR; rw [hr]; rfl)
   have HR := Aside0.mk hr
   clear hr
   go_enter Tryd.func55, Tryd.ntmps55
   go_wp2_with (first | ((with_reducible refine gate_load rfl ?_); refine ev_fld S ?_) | (go_at_call 49; (with_reducible refine (between_any _ _ _ _ _ _ _ _ xs 0 1048576 _ _ _ S.out HF.out hi hl (by omega) (by omega)).mono ?_); rw [HR.out]; rintro e_ w7 ⟨rfl, cs_, S'⟩; replace S := Aside0.mk S'; clear S'))
   exact ⟨rfl, gotB_bad HW.out S.out⟩
end Go.Proofs.YtjnicgfkogfifaaDoor
end

section
/- The reader of msg: a Hide's fields. -/
namespace Go.Proofs.YtjnicgfkogfifaaDoor
open Go.RowKit Go.Proofs.YtjnicgfkogfifaaDoor.PAll Go.Proofs.YtjnicgfkogfifaaDoorW.PrintWords Go.Proofs.YtjnicgfkogfifaaDoorW.PrintLast

def Agree (w : World) (ids : List Nat) (W : World) : Prop := ∀ k, k < w.heap.size → k ∉ ids → W.heap[k]? = w.heap[k]?
theorem Agree.now {w0 w W : World} {bs : List Bx} {F : World → Prop} (S : St w0 w bs F) (h : Agree w (bs.map (·.1)) W) : F W := S.foot W fun k hk hlt => h k hlt hk
theorem St.agree {w0 w : World} {bs : List Bx} {F : World → Prop} (S : St w0 w bs F) : St w0 w bs (Agree w (bs.map (·.1))) := ⟨S.below, S.box, S.nd, fun _ hW k hk hn => hW k hn hk⟩
theorem Agree.size {w0 w W : World} {bs : List Bx} {F : World → Prop} (S : St w0 W bs F) (h : Agree w (bs.map (·.1)) W) : w.heap.size ≤ W.heap.size := by
 rcases Nat.eq_zero_or_pos w.heap.size with h0 | h0
 · omega
 · by_cases hm : (w.heap.size - 1) ∈ bs.map (·.1)
   · obtain ⟨b, hb, e⟩ := List.mem_map.1 hm
     have := S.lt b hb
     have e' : b.1 = w.heap.size - 1 := e
     omega
   · have h1 := h (w.heap.size - 1) (by omega) hm
     rw [Array.getElem?_eq_getElem (by omega : w.heap.size - 1 < w.heap.size)] at h1
     have := (Array.getElem?_eq_some_iff.1 h1).1
     omega
theorem St.append {α : Type} {d : Kd α} {e : Nat} {w0 w W w1 : World} {bs : List Bx} {ids : List Nat} {v v1 : Value} {xs ys : List α} (S : St w0 W bs (fun X => Agree w ids X ∧ d.R e X w.heap.size (fun _ => True) v xs))
 (hids : bs.map (·.1) = ids) (hw : w0.heap.size ≤ w.heap.size) (hne : ∀ b ∈ bs, b.2.1 ∉ e :: d.E) (hg : W.grownBy w1 v.ownBlock) (hb : Below w.heap.size W w1) (hR : d.R e w1 w.heap.size (fun _ => True) v1 ys) :
 St w0 w1 bs (fun X => Agree w ids X ∧ d.R e X w.heap.size (fun _ => True) v1 ys) := by
 have hbox : ∀ b ∈ bs, some b.1 ≠ v.ownBlock := fun b hm => Kd.R_ne S.now.2 (S.box b hm).1 (fun h => hne b hm (by rw [← h]; exact List.mem_cons_self))
 have hat : ∀ b ∈ bs, w1.heap[b.1]? = some (.cells b.2.2 b.2.1 (0, 0)) := fun b hm => (hg.block b.1 (S.lt b hm) (hbox b hm)).trans (S.box b hm).1
 refine ⟨S.below.trans (hb.mono hw), fun b hm => ⟨hat b hm, (S.box b hm).2⟩, S.nd, fun W' hW => ⟨fun k hk hn => ?_, ?_⟩⟩
 · have hs := hb.size
   by_cases hlt : k < W.heap.size
   · rw [hW k (by rw [hids]; exact hn) (by omega), hb.block k hk]
     exact S.now.1 k hk hn
   · have h1 := S.now.1 k hk hn
     rw [Array.getElem?_eq_none (by omega), Array.getElem?_eq_getElem hk] at h1
     cases h1
 · refine Kd.R_mono (Kd.R_move (Kd.R_bound hR) (fun k hk => hW k (fun hm => ?_) hk.2.2.1)) (fun _ _ => trivial)
   obtain ⟨b, hb', rfl⟩ := List.mem_map.1 hm
   obtain ⟨q, hq, cells, hc⟩ := hk.2.2.2
   rw [hat b hb'] at hc
   injection hc with hc
   injection hc with _ hc
   exact hne b hb' (hc ▸ hq)
theorem gotB_badH {w0 w W : World} {bs : List Bx} {F G : World → Prop} {g go : Nat} {A : Option Addr} {n cap : Nat} {c s : Int} {p e : Int} {cs cs' cs1 cs2 : Array Value} {t1 t2 : TypeId} {r : Rd Body} (h : r = .bad p e) (S0 : St w0 w ((g, t1, cs1) :: (go, t2, cs2) :: bs) F) (S : St w0 W ((g, 93, cs) :: (go, 35, cs') :: bs) (fun X => Agree w (g :: go :: List.map (fun b : Bx => b.1) bs) X ∧ G X)) : GotB w0 bs F g go A n cap c s r (flt p e) W := gotB_bad h (S.weak fun _ h => Agree.now S0 h.1)
theorem rd_nil {α : Type} (r : Rd (List α)) : r = r.bind fun l p => .ok ([] ++ l) p := by cases r <;> rfl
theorem rd_snoc {α : Type} (r : Rd (List α)) (acc : List α) (x : α) : ((r.bind fun l i3 => Rd.ok (x :: l) i3).bind fun l p => .ok (acc ++ l) p) = r.bind fun l p => .ok ((acc ++ [x]) ++ l) p := by cases r <;> simp [Rd.bind]
set_option maxRecDepth 100000 in
set_option maxHeartbeats 4000000 in
theorem hide_any (w0 w : World) (bs : List Bx) (F : World → Prop) (g go : Nat) (A : Option Addr) (cap i c s : Nat) (xs : List UInt8) (S : St w0 w ((g, 93, rdA A xs.length cap i) :: (go, 35, opv c s 2 0 ⟨#[]⟩ (.slice none 0 0) 0 0 false) :: bs) F) (hF : ∀ W, F W → BytesAt W A xs) (hi : i ≤ xs.length) (hl : xs.length ≤ 140737488351232) (hbs : ∀ b ∈ bs, b.2.1 ≠ 54) :
 Calls Tryd.prog 56 #[.pointer (some ⟨g, 0, none⟩), .pointer (some ⟨go, 0, none⟩)] w (GotB w0 bs F g go A xs.length cap c s (hideR xs i)) := by
 have HW0 := Aside0.mk S.below.size
 have S00 := Aside0.mk S
 have HF := Aside0.mk (fun (v : Value) (acc : List S54) W (h : Agree w (g :: go :: List.map (fun b : Bx => b.1) bs) W ∧ Kd.R k54 54 W w.heap.size (fun _ => True) v acc) => hF W (Agree.now S h.1))
 have HNE := Aside0.mk (show ∀ (x y : Array Value), ∀ b ∈ ((g, 93, x) :: (go, 35, y) :: bs : List Bx), b.2.1 ∉ (54 : Nat) :: k54.E from fun x y b hb hm => by
  have h54 : b.2.1 = 54 := by
   rcases List.mem_cons.1 hm with h | h
   · exact h
   · exact absurd h (by show b.2.1 ∉ ([] : List Nat); simp)
  rcases List.mem_cons.1 hb with rfl | hb
  · exact absurd (show (93 : Nat) = 54 from h54) (by decide)
  · rcases List.mem_cons.1 hb with rfl | hb
    · exact absurd (show (35 : Nat) = 54 from h54) (by decide)
    · exact hbs b hb h54)
 replace S := Aside0.mk (show St w0 w _ (fun W => Agree w (g :: go :: List.map (fun b : Bx => b.1) bs) W ∧ Kd.R k54 54 W w.heap.size (fun _ => True) (.slice none 0 0) []) from S.agree.weak fun _ h => ⟨h, Kd.R_nil _ _ _ _ _⟩)
 clear hF hbs
 rcases hr : num xs i with ⟨m, j⟩ | ⟨p, q⟩
 · have hj := (num_ok hr).2.2.2
   have HR := Aside0.mk hr
   have hu : hideR xs i = if m = 0 then .bad i 43 else if 32768 < m then .bad i 21 else (rangesR xs m true 0 j).bind fun l j => .ok (.hide l) j := by unfold hideR; rw [hr, Rd.bind_ok]
   clear hr
   by_cases c0 : m = 0
   · rw [if_pos c0] at hu
     have HW := Aside0.mk hu
     subst c0
     clear hu
     go_enter Tryd.func56, Tryd.ntmps56
     go_wp2_with (first | ((with_reducible refine gate_load rfl ?_); refine ev_fld S ?_) | (go_at_call 53; (with_reducible refine (number_any _ _ _ _ _ _ _ _ xs S.out (HF.out _ _) hi hl).mono ?_); rw [HR.out]; rintro e_ w7 ⟨rfl, S'⟩; replace S := Aside0.mk S'; clear S'))
     exact ⟨rfl, gotB_badH HW.out S00.out S.out⟩
   · rw [if_neg c0] at hu
     by_cases c1 : 32768 < m
     · rw [if_pos c1] at hu
       have HW := Aside0.mk hu
       replace c1 : decide ((32768 : Int) < (m : Int)) = true := decide_eq_true (by omega)
       clear hu
       go_enter Tryd.func56, Tryd.ntmps56
       go_wp2_with (first | ((with_reducible refine gate_load rfl ?_); refine ev_fld S ?_) | (go_at_call 53; (with_reducible refine (number_any _ _ _ _ _ _ _ _ xs S.out (HF.out _ _) hi hl).mono ?_); rw [HR.out]; rintro e_ w7 ⟨rfl, S'⟩; replace S := Aside0.mk S'; clear S'))
       exact ⟨rfl, gotB_badH HW.out S00.out S.out⟩
     · rw [if_neg c1] at hu
       have HU := Aside0.mk hu
       have hm : m ≤ 32768 := by omega
       have q0 : ((m : Int) == 0) = false := by rw [beq_eq_false_iff_ne]; omega
       replace c1 : decide ((32768 : Int) < (m : Int)) = false := decide_eq_false (by omega)
       clear hu
       go_enter Tryd.func56, Tryd.ntmps56
       go_wp2_with (first | ((with_reducible refine gate_load rfl ?_); refine ev_fld S ?_) | (go_at_call 53; (with_reducible refine (number_any _ _ _ _ _ _ _ _ xs S.out (HF.out _ _) hi hl).mono ?_); rw [HR.out]; rintro e_ w7 ⟨rfl, S'⟩; replace S := Aside0.mk S'; clear S'))
       go_loopw [6, 30] (fun a' k' wr => ∃ (d kk pos hi : Nat) (acc : List (Nat × Nat)) (A0 : Option Addr) (c0 : Nat), Aside0 (kk + d = m ∧ acc.length = kk) ∧ a' = .int .i64 (hi : Int) ∧ k' = .int .i64 (kk : Int) ∧ hi ≤ 1048576 ∧ pos ≤ xs.length ∧ Aside0 (rangesR xs m true 0 j = (rangesR xs d (decide (kk = 0)) hi pos).bind fun l p => .ok (acc ++ l) p) ∧
        Aside0 (St w0 wr ((g, 93, rdA A xs.length cap pos) :: (go, 35, opv c s 2 0 ⟨#[]⟩ (.slice A0 kk c0) 0 0 false) :: bs) (fun W => Agree w (g :: go :: List.map (fun b : Bx => b.1) bs) W ∧ Kd.R k54 54 W w.heap.size (fun _ => True) (.slice A0 kk c0) (acc.map s54)))) (fun _ k' _ => m - (intOf k').toNat)
       case atStart => exact ⟨m, 0, j, 0, [], none, 0, ⟨by omega, rfl⟩, rfl, rfl, by omega, hj, ⟨rd_nil _⟩, S⟩
       case round =>
        clear S
        obtain ⟨d, kk, pos, hi', acc, A0, c0', HD, rfl, rfl, hhi, hpos, HRR, S⟩ := hrel
        cases d with
        | zero =>
         have q1 : decide (kk < m) = false := decide_eq_false (by have := HD.out; omega)
         have HW := Aside0.mk (show hideR xs i = .ok (.hide acc) pos by rw [HU.out, HRR.out, rangesR, Rd.bind_ok, Rd.bind_ok, List.append_nil])
         go_wp2_with (first | ((with_reducible refine gate_load rfl ?_); refine ev_fld S ?_))
         refine ⟨rfl, .tuple #[], by simp [results, Tryd.results56], ?_⟩
         rw [HW.out]
         exact ⟨_, rfl, S.out.weak fun _ h => ⟨Agree.now S00.out h.1, Kd.R_lower h.2 HW0.out⟩⟩
        | succ d =>
         have hkm : kk < m := by have := HD.out; omega
         have q1 : decide (kk < m) = true := decide_eq_true hkm
         have hu := HU.out
         rw [HRR.out, rangesR] at hu
         rcases hr : num xs pos with ⟨gap, i1⟩ | ⟨p, q⟩
         · have hg1 := (num_ok hr).1
           have hi1 := (num_ok hr).2.2.2
           have HR1 := Aside0.mk hr
           rw [hr, Rd.bind_ok] at hu
           clear hr
           by_cases c2 : gap = 0 ∧ decide (kk = 0) = false
           · rw [if_pos c2] at hu
             have HW := Aside0.mk hu
             obtain ⟨rfl, c3⟩ := c2
             have c3 : ¬ kk = 0 := by simpa using c3
             have q2 : (0 : Int) < (kk : Int) := by omega
             clear hu
             go_wp2_with (first | ((with_reducible refine gate_load rfl ?_); refine ev_fld S ?_) | (go_at_call 53; (with_reducible refine (number_any _ _ _ _ _ _ _ _ xs S.out (HF.out _ _) hpos hl).mono ?_); rw [HR1.out]; rintro e_ w7 ⟨rfl, S'⟩; replace S := Aside0.mk S'; clear S'))
             exact ⟨rfl, gotB_badH HW.out S00.out S.out⟩
           · rw [if_neg c2] at hu
             go_upto_region 12 with (first | ((with_reducible refine gate_load rfl ?_); refine ev_fld S ?_) | (go_at_call 53; (with_reducible refine (number_any _ _ _ _ _ _ _ _ xs S.out (HF.out _ _) hpos hl).mono ?_); rw [HR1.out]; rintro e_ w7 ⟨rfl, S'⟩; replace S := Aside0.mk S'; clear S'))
             go_cut [44] (fun v44 wz => v44 = .bool false ∧ Aside0 (St w0 wz ((g, 93, rdA A xs.length cap i1) :: (go, 35, opv c s 2 0 ⟨#[]⟩ (.slice A0 kk c0') 0 0 false) :: bs) (fun W => Agree w (g :: go :: List.map (fun b : Bx => b.1) bs) W ∧ Kd.R k54 54 W w.heap.size (fun _ => True) (.slice A0 kk c0') (acc.map s54))))
             case first =>
              by_cases c3 : gap = 0
              · have c4 : kk = 0 := by
                 by_cases h : kk = 0
                 · exact h
                 · exact absurd ⟨c3, by simpa using h⟩ c2
                subst c3
                subst c4
                go_wp2_with (fail)
                go_meet
                exact ⟨rfl, S⟩
              · go_wp2_with (fail)
                go_meet
                exact ⟨rfl, S⟩
             case rest =>
              clear S
              obtain ⟨rfl, S⟩ := hcut
              have HC2 := Aside0.mk c2
              clear c2
              rcases hr2 : num xs i1 with ⟨n, i2⟩ | ⟨p, q⟩
              · have hn1 := (num_ok hr2).1
                have hi2 := (num_ok hr2).2.2.2
                have HR2 := Aside0.mk hr2
                rw [hr2, Rd.bind_ok] at hu
                clear hr2
                by_cases c5 : n = 0 ∨ 1048576 < hi' + gap + n
                · rw [if_pos c5] at hu
                  have HW := Aside0.mk hu
                  clear hu
                  by_cases c6 : n = 0
                  · subst c6
                    clear c5
                    go_wp2_with (first | ((with_reducible refine gate_load rfl ?_); refine ev_fld S ?_) | (go_at_call 53; (with_reducible refine (number_any _ _ _ _ _ _ _ _ xs S.out (HF.out _ _) hi1 hl).mono ?_); rw [HR2.out]; rintro e_ w7 ⟨rfl, S'⟩; replace S := Aside0.mk S'; clear S'))
                    exact ⟨rfl, gotB_badH HW.out S00.out S.out⟩
                  · have q3 : decide ((1048576 : Int) < (hi' : Int) + (gap : Int) + (n : Int)) = true := decide_eq_true (by omega)
                    clear c5
                    go_wp2_with (first | ((with_reducible refine gate_load rfl ?_); refine ev_fld S ?_) | (go_at_call 53; (with_reducible refine (number_any _ _ _ _ _ _ _ _ xs S.out (HF.out _ _) hi1 hl).mono ?_); rw [HR2.out]; rintro e_ w7 ⟨rfl, S'⟩; replace S := Aside0.mk S'; clear S'))
                    exact ⟨rfl, gotB_badH HW.out S00.out S.out⟩
                · rw [if_neg c5] at hu
                  have hle : hi' + gap + n ≤ 1048576 := by omega
                  have c6 : ¬ n = 0 := by omega
                  have q3 : decide ((1048576 : Int) < (hi' : Int) + (gap : Int) + (n : Int)) = false := decide_eq_false (by omega)
                  have HR3 := Aside0.mk (show rangesR xs m true 0 j = (rangesR xs d (decide (kk + 1 = 0)) (hi' + gap + n) i2).bind fun l p => .ok ((acc ++ [(hi' + gap, hi' + gap + n)]) ++ l) p by
                   rw [HRR.out, rangesR, HR1.out, Rd.bind_ok, if_neg HC2.out, HR2.out, Rd.bind_ok, if_neg c5, rd_snoc]
                   simp)
                  have HLN := Aside0.mk (show (acc.map s54 ++ [s54 (hi' + gap, hi' + gap + n)]).length = kk + 1 by rw [List.length_append, List.length_map, HD.out.2]; rfl)
                  clear c5 hu HRR
                  go_wp2_with (first | ((with_reducible refine gate_load rfl ?_); refine ev_fld S ?_) | (go_at_call 53; (with_reducible refine (number_any _ _ _ _ _ _ _ _ xs S.out (HF.out _ _) hi1 hl).mono ?_); rw [HR2.out]; rintro e_ w7 ⟨rfl, S'⟩; replace S := Aside0.mk S'; clear S') | (at_builtin; refine Hid.out ?_))
                  refine Lib.hid ?_
                  (refine Kd.R_append k54 (w0 := _) w.heap.size rfl (.tmp 73) (.tmp 77) 33 54 (.agg #[(.int .i64 0), (.int .i64 0)]) 16 rfl Tryd.underlying33 info54 rfl (by decide) (by omega) (.slice A0 kk c0') (acc.map s54) (s54 (hi' + gap, hi' + gap + n)) [.int .i64 ((hi' : Int) + (gap : Int)), .int .i64 ((hi' : Int) + (gap : Int) + (n : Int))] (fun _ => True) (fun _ => False) rfl rfl ?aP (fun _ hk => hk.elim) (fun _ _ => trivial) S.out.now.2 (Below.refl _ _) (Agree.size S.out S.out.now.1) ?aL ?_; (case aP => exact (k54_mkM _ _ _ (s54 (hi' + gap, hi' + gap + n)))); (case aL => rw [List.length_map]; have := HD.out; omega); intro v1 w1 hR1 hb1 hg1 _; obtain ⟨A1, c1, rfl⟩ := Kd.R_slice hR1; rw [HLN.out] at hR1 ⊢; replace S := Aside0.mk (S.out.append rfl HW0.out (HNE.out _ _) hg1 hb1 hR1); clear hR1 hb1 hg1)
                  go_wp2_with (first | ((with_reducible refine gate_load rfl ?_); refine ev_fld S ?_) | ((with_reducible refine gate_st rfl ?_); refine ev_set S ?_; clear S; intro _ S))
                  go_roundw
                  case rel =>
                   refine ⟨d, kk + 1, i2, hi' + gap + n, acc ++ [(hi' + gap, hi' + gap + n)], A1, c1, ⟨by have := HD.out; omega, by rw [List.length_append, HD.out.2]; rfl⟩, by first | rfl | go_num, by go_num, hle, hi2, HR3, ?_⟩
                   rw [List.map_append]
                   exact S
                  case measure => simp [intOf]; omega
              · rw [hr2] at hu
                have HW := Aside0.mk hu
                have HR2 := Aside0.mk hr2
                clear hr2 hu
                go_wp2_with (first | ((with_reducible refine gate_load rfl ?_); refine ev_fld S ?_) | (go_at_call 53; (with_reducible refine (number_any _ _ _ _ _ _ _ _ xs S.out (HF.out _ _) hi1 hl).mono ?_); rw [HR2.out]; rintro e_ w7 ⟨rfl, cs_, S'⟩; replace S := Aside0.mk S'; clear S'))
                exact ⟨rfl, gotB_badH HW.out S00.out S.out⟩
         · rw [hr] at hu
           have HW := Aside0.mk hu
           have HR1 := Aside0.mk hr
           clear hr hu
           go_wp2_with (first | ((with_reducible refine gate_load rfl ?_); refine ev_fld S ?_) | (go_at_call 53; (with_reducible refine (number_any _ _ _ _ _ _ _ _ xs S.out (HF.out _ _) hpos hl).mono ?_); rw [HR1.out]; rintro e_ w7 ⟨rfl, cs_, S'⟩; replace S := Aside0.mk S'; clear S'))
           exact ⟨rfl, gotB_badH HW.out S00.out S.out⟩
 · have HW := Aside0.mk (show hideR xs i = .bad p q by unfold hideR; rw [hr]; rfl)
   have HR := Aside0.mk hr
   clear hr
   go_enter Tryd.func56, Tryd.ntmps56
   go_wp2_with (first | ((with_reducible refine gate_load rfl ?_); refine ev_fld S ?_) | (go_at_call 53; (with_reducible refine (number_any _ _ _ _ _ _ _ _ xs S.out (HF.out _ _) hi hl).mono ?_); rw [HR.out]; rintro e_ w7 ⟨rfl, cs_, S'⟩; replace S := Aside0.mk S'; clear S'))
   exact ⟨rfl, gotB_badH HW.out S00.out S.out⟩
end Go.Proofs.YtjnicgfkogfifaaDoor
end

section
/- Commands and messages as bytes: what is read is what is written of the answer; what is cut is told where it ends. -/
namespace Go.Proofs.YtjnicgfkogfifaaDoor
section
variable {chk : List UInt8 → Int × Int × Int}
theorem text_cuts (p n : Nat) : Cuts (textR chk p n) := by
 refine ⟨fun xs i a j hi h => ?_, fun xs ys i a j hi h => ?_, fun xs ys i a j hi h => ?_⟩
 · unfold textR at h
   by_cases c0 : xs.length < i + n
   · rw [if_pos c0] at h; cases h
   · rw [if_neg c0] at h
     split at h
     · cases h
     · split at h
       · cases h
       · split at h
         · cases h
         · cases h; omega
 · by_cases c0 : xs.length < i + n
   · have hj : j = i + n := by
      unfold textR at h
      split at h
      · cases h
      · split at h
        · cases h
        · split at h
          · cases h
          · split at h
            · cases h
            · cases h; rfl
     rw [if_neg (by omega)]
     unfold textR
     rw [if_pos c0]
   · have ht : ((xs ++ ys).drop i).take n = (xs.drop i).take n := by
      rw [List.drop_append_of_le_length hi, List.take_append_of_le_length (by rw [List.length_drop]; omega)]
     unfold textR at h ⊢
     rw [if_neg (by rw [List.length_append]; omega), ht] at h
     rw [if_neg c0]
     split at h
     · cases h
     · rename_i c1
       split at h
       · cases h
       · rename_i c2
         split at h
         · cases h
         · rename_i c3
           cases h
           rw [if_pos (by omega), if_neg c1, if_neg c2, if_neg c3]
 · unfold textR at h ⊢
   by_cases c0 : xs.length < i + n
   · rw [if_pos c0] at h; cases h
   · have ht : ((xs ++ ys).drop i).take n = (xs.drop i).take n := by
      rw [List.drop_append_of_le_length hi, List.take_append_of_le_length (by rw [List.length_drop]; omega)]
     rw [if_neg c0] at h
     rw [if_neg (by rw [List.length_append]; omega), ht]
     split at h
     · cases h
     · rename_i c1
       split at h
       · cases h
       · rename_i c2
         split at h
         · cases h
         · rename_i c3
           cases h
           rw [if_neg c1, if_neg c2, if_neg c3]
theorem ins_cuts : Cuts (insR chk) :=
 Cuts.bind (f := fun p _ xs i1 => (num xs i1).bind fun n i2 => if n = 0 then .bad i1 15 else if 1024 < n then .bad i1 14 else textR chk p n xs i2) (betw_cuts _ _ _) fun p _ =>
 Cuts.bind (f := fun n i1 xs i2 => if n = 0 then .bad i1 15 else if 1024 < n then .bad i1 14 else textR chk p n xs i2) num_cuts fun n i1 =>
 Cuts.ite (Cuts.bad (fun _ _ => i1) 15) (Cuts.ite (Cuts.bad (fun _ _ => i1) 14) (text_cuts p n))
theorem ranges_cuts : ∀ (d : Nat) (first : Bool) (hi : Nat), Cuts (fun xs i => rangesR xs d first hi i)
 | 0, _, _ => Cuts.pure []
 | d + 1, first, hi =>
  Cuts.bind (f := fun gap i xs i1 => if gap = 0 ∧ first = false then .bad i 22 else (num xs i1).bind fun n i2 => if n = 0 ∨ 1048576 < hi + gap + n then .bad i1 20 else
   (rangesR xs d false (hi + gap + n) i2).bind fun l i3 => .ok ((hi + gap, hi + gap + n) :: l) i3) num_cuts fun gap i =>
  Cuts.ite (Cuts.bad (fun _ _ => i) 22) (Cuts.bind (f := fun n i1 xs i2 => if n = 0 ∨ 1048576 < hi + gap + n then .bad i1 20 else
   (rangesR xs d false (hi + gap + n) i2).bind fun l i3 => .ok ((hi + gap, hi + gap + n) :: l) i3) num_cuts fun n i1 =>
  Cuts.ite (Cuts.bad (fun _ _ => i1) 20) (Cuts.bind (f := fun l _ _ i3 => .ok ((hi + gap, hi + gap + n) :: l) i3) (ranges_cuts d false (hi + gap + n)) fun _ _ => Cuts.pure _))
theorem hide_cuts : Cuts hideR :=
 Cuts.bind (f := fun n i xs i1 => if n = 0 then .bad i 43 else if 32768 < n then .bad i 21 else (rangesR xs n true 0 i1).bind fun l j => Rd.ok (Body.hide l) j) num_cuts fun n i =>
 Cuts.ite (Cuts.bad (fun _ _ => i) 43) (Cuts.ite (Cuts.bad (fun _ _ => i) 21) (Cuts.bind (f := fun l _ _ j => Rd.ok (Body.hide l) j) (ranges_cuts n true 0) fun _ _ => Cuts.pure _))
theorem status_cuts (c s : Nat) : Cuts (statusR c s) :=
 Cuts.bind (f := fun a _ xs i1 => (betw 1 1024 63 xs i1).bind fun b i2 => if a = c ∧ b = s then .bad i1 63 else (betw 0 1 104 xs i2).bind fun on j => Rd.ok (Body.status a b (decide (on = 1))) j) (betw_cuts _ _ _) fun a _ =>
 Cuts.bind (f := fun b i1 xs i2 => if a = c ∧ b = s then .bad i1 63 else (betw 0 1 104 xs i2).bind fun on j => Rd.ok (Body.status a b (decide (on = 1))) j) (betw_cuts _ _ _) fun b i1 =>
 Cuts.ite (Cuts.bad (fun _ _ => i1) 63) (Cuts.bind (f := fun on _ _ j => Rd.ok (Body.status a b (decide (on = 1))) j) (betw_cuts _ _ _) fun _ _ => Cuts.pure _)
theorem body_cuts (k c s : Nat) : Cuts (bodyR chk k c s) := Cuts.ite ins_cuts (Cuts.ite hide_cuts (status_cuts c s))
structure Ends {α : Type} (R : List UInt8 → Nat → Rd α) : Prop where
 all : ∀ xs i a j, i ≤ xs.length → R xs i = .ok a j → i ≤ j ∧ j = xs.length
 short : ∀ xs ys i a j, i ≤ xs.length → ys ≠ [] → R (xs ++ ys) i = .ok a j → R xs i = .bad xs.length 102
 long : ∀ xs ys i a j, i ≤ xs.length → ys ≠ [] → R xs i = .ok a j → R (xs ++ ys) i = .bad xs.length 103
theorem Ends.bind {α β : Type} {R : List UInt8 → Nat → Rd α} {f : α → Nat → List UInt8 → Nat → Rd β} (hc : Cuts R) (hf : ∀ a i, Ends (f a i)) : Ends (fun xs i => (R xs i).bind (fun a j => f a i xs j)) := by
 refine ⟨fun xs i b l hi hb => ?_, fun xs ys i b l hi hy hb => ?_, fun xs ys i b l hi hy hb => ?_⟩
 · obtain ⟨a, j, h1, h2⟩ := Rd.bind_eq hb
   have k1 := hc.mono _ _ _ _ hi h1
   have k2 := (hf a i).all _ _ _ _ k1.2 h2
   exact ⟨by omega, k2.2⟩
 · obtain ⟨a, j, h1, h2⟩ := Rd.bind_eq hb
   have k1 := hc.cut _ _ _ _ _ hi h1
   by_cases hj : j ≤ xs.length
   · rw [if_pos hj] at k1
     simp only [k1, Rd.bind_ok]
     exact (hf a i).short _ _ _ _ _ hj hy h2
   · rw [if_neg hj] at k1
     simp only [k1, Rd.bind_bad]
 · obtain ⟨a, j, h1, h2⟩ := Rd.bind_eq hb
   simp only [hc.more xs ys i a j hi h1, Rd.bind_ok]
   exact (hf a i).long _ _ _ _ _ (hc.mono _ _ _ _ hi h1).2 hy h2
theorem Ends.ite {α : Type} {R T : List UInt8 → Nat → Rd α} {c : Prop} [Decidable c] (h : Ends R) (k : Ends T) : Ends (fun xs i => if c then R xs i else T xs i) := by
 by_cases hc : c
 · simp only [if_pos hc]; exact h
 · simp only [if_neg hc]; exact k
theorem Ends.map {α β : Type} {R : List UInt8 → Nat → Rd α} (h : Ends R) (c : α → Prop) [DecidablePred c] (e : Int) (g : α → β) : Ends (fun xs i => (R xs i).bind fun a j => if c a then .bad i e else .ok (g a) j) := by
 refine ⟨fun xs i b l hi hb => ?_, fun xs ys i b l hi hy hb => ?_, fun xs ys i b l hi hy hb => ?_⟩
 · obtain ⟨a, j, h1, h2⟩ := Rd.bind_eq hb
   split at h2
   · cases h2
   · cases h2; exact h.all _ _ _ _ hi h1
 · obtain ⟨a, j, h1, _⟩ := Rd.bind_eq hb
   simp only [h.short _ _ _ _ _ hi hy h1, Rd.bind_bad]
 · obtain ⟨a, j, h1, _⟩ := Rd.bind_eq hb
   simp only [h.long _ _ _ _ _ hi hy h1, Rd.bind_bad]
end
end Go.Proofs.YtjnicgfkogfifaaDoor
end

section
/- Commands and messages as bytes: any bytes that are taken are what is written of the answer. -/
namespace Go.Proofs.YtjnicgfkogfifaaDoor
section
variable {chk : List UInt8 → Int × Int × Int}
theorem ins_cv {xs : List UInt8} {i j : Nat} {b : Body} (c s : Nat) (h : insR chk xs i = .ok b j) : b.kind = 1 ∧ OkB chk c s b ∧ xs.drop i = encB b ++ xs.drop j := by
 unfold insR at h
 obtain ⟨p, i1, h1, h⟩ := Rd.bind_eq h
 obtain ⟨n, i2, h2, h⟩ := Rd.bind_eq h
 obtain ⟨a1, a2, a3, a4⟩ := betw_ok h1
 obtain ⟨b1, b2, b3, b4⟩ := num_ok h2
 split at h
 · cases h
 · rename_i c1
   split at h
   · cases h
   · rename_i c2
     unfold textR at h
     split at h
     · cases h
     · rename_i c3
       have hl : ((xs.drop i2).take n).length = n := by rw [List.length_take, List.length_drop]; omega
       obtain ⟨t, ht⟩ : ∃ t, t = (xs.drop i2).take n := ⟨_, rfl⟩
       rw [← ht] at h hl
       split at h
       · cases h
       · rename_i c4
         split at h
         · cases h
         · rename_i c5
           split at h
           · cases h
           · rename_i c6
             cases h
             refine ⟨rfl, ⟨a1.2.1, by omega, by omega, by simpa using c4, by omega, by omega⟩, ?_⟩
             have e : xs.drop i2 = t ++ xs.drop (i2 + n) := by rw [ht, ← List.drop_drop, List.take_append_drop]
             simp only [encB, List.append_assoc, hl]
             rw [a2, b2, e]
theorem ranges_cv {xs : List UInt8} : ∀ (d : Nat) (first : Bool) (hi i : Nat) (l : List (Nat × Nat)) (j : Nat), rangesR xs d first hi i = .ok l j → l.length = d ∧ OkL first hi l ∧ xs.drop i = encL hi l ++ xs.drop j
 | 0, _, _, _, _, _, h => by cases h; exact ⟨rfl, trivial, rfl⟩
 | d + 1, first, hi, i, l, j, h => by
  rw [rangesR] at h
  obtain ⟨gap, i1, h1, h⟩ := Rd.bind_eq h
  have a := num_ok h1
  split at h
  · cases h
  · rename_i c1
    obtain ⟨n, i2, h2, h⟩ := Rd.bind_eq h
    have b := num_ok h2
    split at h
    · cases h
    · rename_i c2
      obtain ⟨m, i3, h3, h⟩ := Rd.bind_eq h
      obtain ⟨q1, q2, q3⟩ := ranges_cv d _ _ _ _ _ h3
      cases h
      refine ⟨by rw [List.length_cons, q1], ⟨by simp only; omega, fun hf => by simp only; rcases Nat.eq_zero_or_pos gap with h0 | h0; (exact absurd ⟨h0, hf⟩ c1); omega, by simp only; omega, by simp only; omega, q2⟩, ?_⟩
      simp only [encL, List.append_assoc]
      have e1 : hi + gap - hi = gap := by omega
      have e2 : hi + gap + n - (hi + gap) = n := by omega
      rw [e1, e2, a.2.1, b.2.1, q3]
theorem body_cv {xs : List UInt8} {i j k c s : Nat} {b : Body} (hk : k = 1 ∨ k = 2 ∨ k = 4) (h : bodyR chk k c s xs i = .ok b j) : b.kind = k ∧ OkB chk c s b ∧ xs.drop i = encB b ++ xs.drop j := by
 unfold bodyR at h
 split at h
 · rename_i h1
   obtain ⟨q1, q2, q3⟩ := ins_cv c s h
   exact ⟨by rw [q1, h1], q2, q3⟩
 · rename_i h1
   split at h
   · rename_i h2
     unfold hideR at h
     obtain ⟨n, i1, h3, h⟩ := Rd.bind_eq h
     have a := num_ok h3
     split at h
     · cases h
     · split at h
       · cases h
       · obtain ⟨l, i3, h4, h⟩ := Rd.bind_eq h
         obtain ⟨q1, q2, q3⟩ := ranges_cv _ _ _ _ _ _ h4
         cases h
         refine ⟨by rw [h2]; rfl, ⟨by omega, by omega, q2⟩, ?_⟩
         simp only [encB, List.append_assoc]
         rw [q1, a.2.1, q3]
   · rename_i h2
     unfold statusR at h
     obtain ⟨x, i1, h3, h⟩ := Rd.bind_eq h
     obtain ⟨y, i2, h4, h⟩ := Rd.bind_eq h
     have a := betw_ok h3
     have b := betw_ok h4
     split at h
     · cases h
     · rename_i h5
       obtain ⟨z, i4, h6, h⟩ := Rd.bind_eq h
       have d := betw_ok h6
       cases h
       refine ⟨by show 4 = k; omega, ⟨⟨a.1.1, a.1.2.1⟩, ⟨b.1.1, b.1.2.1⟩, h5⟩, ?_⟩
       have e : (if decide (z = 1) = true then 1 else 0) = z := by
        by_cases hz : z = 1
        · rw [if_pos (by simpa using hz), hz]
        · rw [if_neg (by simpa using hz)]; omega
       simp only [encB, List.append_assoc, e]
       rw [a.2.1, b.2.1, d.2.1]
end
end Go.Proofs.YtjnicgfkogfifaaDoor
end

section
/- The reader of msg: a command that is all that is left. -/
namespace Go.Proofs.YtjnicgfkogfifaaDoor
open Go.RowKit Go.Proofs.YtjnicgfkogfifaaDoor.PAll Go.Proofs.YtjnicgfkogfifaaDoorW.PrintWords Go.Proofs.YtjnicgfkogfifaaDoorW.PrintLast

abbrev cmdA (o : Cmd) (v : Value) : Array Value := bodyA o.c o.s o.b v
def GotC (w0 : World) (bs : List Bx) (F : World → Prop) (g : Nat) (A : Option Addr) (n cap : Nat) (r : Rd Cmd) (e : Ending) (w' : World) : Prop :=
 match r with
 | .ok o j => ∃ v, e = .returned (.agg (cmdA o v)) ∧ St w0 w' ((g, 93, rdA A n cap j) :: bs) (fun W => F W ∧ Kd.R k54 54 W w0.heap.size (fun _ => True) v (bodyL o.b))
 | .bad p er => e = flt p er ∧ ∃ cs, St w0 w' ((g, 93, cs) :: bs) F
theorem St.cut3 {w0 w : World} {a b c : Bx} {bs : List Bx} {F : World → Prop} (S : St w0 w (a :: b :: c :: bs) F) : St w0 w (a :: bs) F := S.drop (List.Sublist.cons_cons _ (List.Sublist.cons _ (List.Sublist.cons _ (List.Sublist.refl _))))
theorem gotC_bad {w0 w : World} {bs : List Bx} {F G : World → Prop} {g : Nat} {A : Option Addr} {n cap : Nat} {p e : Int} {cs : Array Value} {x y : Bx} {r : Rd Cmd} (h : r = .bad p e) (S : St w0 w ((g, 93, cs) :: x :: y :: bs) G) (hG : ∀ W, G W → F W) : GotC w0 bs F g A n cap r (flt p e) w := by rw [h]; exact ⟨rfl, cs, (S.cut3).weak hG⟩
abbrev z35 : Array Value := opv 0 0 0 0 ⟨#[]⟩ (.slice none 0 0) 0 0 false
def tailR (k c s : Nat) (xs : List UInt8) (i : Nat) : Rd Cmd := (bodyR chkL k c s xs i).bind fun b j => (endR xs j).bind fun _ j => .ok ⟨c, s, b⟩ j
theorem all_of {xs : List UInt8} {i k j : Nat} (h : num xs i = .ok k j) : allR chkL xs i = if k ≠ 1 ∧ k ≠ 2 ∧ k ≠ 4 then .bad i 40 else (idR 41 xs j).bind fun q l => tailR k q.1 q.2 xs l := by
 unfold allR cmdR
 rw [h, Rd.bind_ok]
 split
 · rfl
 · unfold idR
   cases betw 1 8 41 xs j with
   | bad p q => rfl
   | ok c i2 =>
    simp only [Rd.bind_ok]
    cases betw 1 1024 41 xs i2 with
    | bad p q => rfl
    | ok s i3 =>
     simp only [Rd.bind_ok]
     unfold tailR
     cases bodyR chkL k c s xs i3 with
     | bad p q => rfl
     | ok b j => rfl
theorem id_ok {e : Int} {xs : List UInt8} {i j : Nat} {q : Nat × Nat} (h : idR e xs i = .ok q j) : j ≤ xs.length := by
 unfold idR at h
 obtain ⟨a, i1, _, h⟩ := Rd.bind_eq h
 obtain ⟨b, i2, h2, h⟩ := Rd.bind_eq h
 cases h
 exact (betw_ok h2).2.2.2
theorem body_le {k c s : Nat} {xs : List UInt8} {i j : Nat} {b : Body} (hi : i ≤ xs.length) (h : bodyR chkL k c s xs i = .ok b j) : j ≤ xs.length := ((body_cuts k c s).mono _ _ _ _ hi h).2
set_option maxRecDepth 100000 in
set_option maxHeartbeats 4000000 in
theorem command_any (w0 w : World) (bs : List Bx) (F : World → Prop) (g : Nat) (A : Option Addr) (cap i : Nat) (xs : List UInt8) (S : St w0 w ((g, 93, rdA A xs.length cap i) :: bs) F) (hF : ∀ W, F W → BytesAt W A xs) (hG : ∀ W, F W → GW W) (hi : i ≤ xs.length) (hl : xs.length ≤ 140737488351232) (hcap : xs.length ≤ cap) (hcap2 : cap ≤ 9223372036854775807) (hbs : ∀ b ∈ bs, b.2.1 ≠ 54) :
 Calls Tryd.prog 44 #[.pointer (some ⟨g, 0, none⟩)] w (GotC w0 bs F g A xs.length cap (allR chkL xs i)) := by
 have HF := Aside0.mk hF
 have HG := Aside0.mk hG
 have HB2 := Aside0.mk (show ∀ gr : Nat, ∀ b ∈ ((gr, 35, z35) :: bs : List Bx), b.2.1 ≠ 54 from fun gr b hb h54 => by
  rcases List.mem_cons.1 hb with rfl | hb
  · exact absurd (show (35 : Nat) = 54 from h54) (by decide)
  · exact hbs b hb h54)
 replace S := Aside0.mk S
 clear hF hG hbs
 rcases hr : num xs i with ⟨k, j⟩ | ⟨p, q⟩
 · have hj := (num_ok hr).2.2.2
   have hu := all_of hr
   have HR := Aside0.mk hr
   clear hr
   by_cases hk : k ≠ 1 ∧ k ≠ 2 ∧ k ≠ 4
   · rw [if_pos hk] at hu
     have HW := Aside0.mk hu
     have q1 : ((k : Int) != 1) = true := bne_iff_ne.mpr (by omega)
     have q2 : ((k : Int) != 2) = true := bne_iff_ne.mpr (by omega)
     have q3 : ((k : Int) != 4) = true := bne_iff_ne.mpr (by omega)
     clear hu hk
     go_enter Tryd.func44, Tryd.ntmps44
     go_upto_region 1 with (first | ((with_reducible refine gate_new rfl ?_); refine ev_new S 35 z35 ?_; clear S; intro gr _ S; replace S := Aside0.mk S.out.sw))
     go_upto_region 2 with (first | ((with_reducible refine gate_new rfl ?_); refine ev_new S 35 z35 ?_; clear S; intro go _ S; replace S := Aside0.mk S.out.sw))
     go_wp2_with (first | ((with_reducible refine gate_load rfl ?_); refine ev_fld S ?_) | (go_at_call 53; (with_reducible refine (number_any _ _ _ _ _ _ _ _ xs S.out HF.out hi hl).mono ?_); rw [HR.out]; rintro e_ w7 ⟨rfl, S'⟩; replace S := Aside0.mk S'; clear S') | ((with_reducible refine gate_st rfl ?_); (first | refine ev_set2 S ?_ | refine ev_set S ?_); clear S; intro _ S))
     exact ⟨rfl, gotC_bad HW.out S.out (fun _ h => h)⟩
   · rw [if_neg hk] at hu
     rcases hi2 : idR 41 xs j with ⟨⟨c, s⟩, l⟩ | ⟨p, q⟩
     · rw [hi2, Rd.bind_ok] at hu
       have hl3 := id_ok hi2
       have HU := Aside0.mk hu
       have HI := Aside0.mk hi2
       clear hi2 hu
       have hk3 : k = 1 ∨ k = 2 ∨ k = 4 := by omega
       clear hk
       go_enter Tryd.func44, Tryd.ntmps44
       go_upto_region 1 with (first | ((with_reducible refine gate_new rfl ?_); refine ev_new S 35 z35 ?_; clear S; intro gr _ S; replace S := Aside0.mk S.out.sw))
       go_upto_region 2 with (first | ((with_reducible refine gate_new rfl ?_); refine ev_new S 35 z35 ?_; clear S; intro go _ S; replace S := Aside0.mk S.out.sw))
       rcases hk3 with rfl | rfl | rfl
       · go_upto_region 7 with (first | ((with_reducible refine gate_load rfl ?_); refine ev_fld S ?_) | (go_at_call 53; (with_reducible refine (number_any _ _ _ _ _ _ _ _ xs S.out HF.out hi hl).mono ?_); rw [HR.out]; rintro e_ w7 ⟨rfl, S'⟩; replace S := Aside0.mk S'; clear S') | (go_at_call 54; (with_reducible refine (id_any _ _ _ _ _ _ _ _ xs _ S.out HF.out hj hl).mono ?_); rw [HI.out]; rintro e_ w7 ⟨rfl, S'⟩; replace S := Aside0.mk S'; clear S') | ((with_reducible refine gate_st rfl ?_); (first | refine ev_set2 S ?_ | refine ev_set S ?_); clear S; intro _ S))
         replace S := Aside0.mk (show St w0 _ ((g, 93, rdA A xs.length cap l) :: (go, 35, opv c s 1 0 ⟨#[]⟩ (.slice none 0 0) 0 0 false) :: (gr, 35, z35) :: bs) F from S.out)
         have hu := HU.out
         unfold tailR at hu
         rw [body_1] at hu
         clear HU
         rcases hb : insR chkL xs l with ⟨b, m⟩ | ⟨p, q⟩
         · rw [hb, Rd.bind_ok] at hu
           have HB := Aside0.mk hb
           have hm := body_le (k := 1) (c := c) (s := s) hl3 (by rw [body_1]; exact hb)
           have hbk := (body_cv (chk := chkL) (k := 1) (c := c) (s := s) (by omega) (by rw [body_1]; exact hb)).1
           obtain ⟨tp, tt, rfl⟩ : ∃ tp tt, b = .ins tp tt := by cases b <;> first | exact ⟨_, _, rfl⟩ | (simp [Body.kind] at hbk)
           rcases he : endR xs m with ⟨_, m2⟩ | ⟨p, q⟩
           · rw [he] at hu
             have HW := Aside0.mk hu
             have HE := Aside0.mk he
             clear hu hb he hbk
             go_wp2_with (first | ((with_reducible refine gate_load rfl ?_); refine ev_fld S ?_) | (go_at_call 55; refine (ins_any _ _ _ _ _ _ _ _ l c s xs S.out HF.out HG.out hl3 hl hcap hcap2).mono ?_; rw [HB.out]; rintro e_ w7 ⟨v_, rfl, S'⟩; obtain ⟨Av_, cv_, rfl⟩ := Kd.R_slice S'.now.2; replace S := Aside0.mk S'; clear S') | (go_at_call 50; (with_reducible refine (end_any _ _ _ _ _ _ _ _ xs S.out).mono ?_); rw [HE.out]; rintro e_ w7 ⟨rfl, S'⟩; replace S := Aside0.mk S'; clear S') | ((with_reducible refine gate_load rfl ?_); refine ev_load S ?_) | ((with_reducible refine gate_st rfl ?_); refine ev_store S ?_; clear S; intro _ S))
             refine bodyPost_ret (results_c1 rfl _ _ _ 35 _ (0, 0) _ rfl (S.out.at_ 2 rfl) Tryd.underlying35 rfl (by kernel_rfl)) rfl ?_
             rw [HW.out]
             exact ⟨_, rfl, S.out.cut3⟩
           · rw [he] at hu
             have HW := Aside0.mk hu
             have HE := Aside0.mk he
             clear hu hb he hbk
             go_wp2_with (first | ((with_reducible refine gate_load rfl ?_); refine ev_fld S ?_) | (go_at_call 55; refine (ins_any _ _ _ _ _ _ _ _ l c s xs S.out HF.out HG.out hl3 hl hcap hcap2).mono ?_; rw [HB.out]; rintro e_ w7 ⟨v_, rfl, S'⟩; obtain ⟨Av_, cv_, rfl⟩ := Kd.R_slice S'.now.2; replace S := Aside0.mk S'; clear S') | (go_at_call 50; (with_reducible refine (end_any _ _ _ _ _ _ _ _ xs S.out).mono ?_); rw [HE.out]; rintro e_ w7 ⟨rfl, cs_, S'⟩; replace S := Aside0.mk S'; clear S'))
             exact ⟨rfl, gotC_bad HW.out S.out (fun _ h => h.1)⟩
         · rw [hb] at hu
           have HW := Aside0.mk hu
           have HB := Aside0.mk hb
           clear hu hb
           go_wp2_with (first | ((with_reducible refine gate_load rfl ?_); refine ev_fld S ?_) | (go_at_call 55; refine (ins_any _ _ _ _ _ _ _ _ l c s xs S.out HF.out HG.out hl3 hl hcap hcap2).mono ?_; rw [HB.out]; rintro e_ w7 ⟨rfl, cs_, cs2_, S'⟩; replace S := Aside0.mk S'; clear S'))
           exact ⟨rfl, gotC_bad HW.out S.out (fun _ h => h)⟩
       · go_upto_region 7 with (first | ((with_reducible refine gate_load rfl ?_); refine ev_fld S ?_) | (go_at_call 53; (with_reducible refine (number_any _ _ _ _ _ _ _ _ xs S.out HF.out hi hl).mono ?_); rw [HR.out]; rintro e_ w7 ⟨rfl, S'⟩; replace S := Aside0.mk S'; clear S') | (go_at_call 54; (with_reducible refine (id_any _ _ _ _ _ _ _ _ xs _ S.out HF.out hj hl).mono ?_); rw [HI.out]; rintro e_ w7 ⟨rfl, S'⟩; replace S := Aside0.mk S'; clear S') | ((with_reducible refine gate_st rfl ?_); (first | refine ev_set2 S ?_ | refine ev_set S ?_); clear S; intro _ S))
         replace S := Aside0.mk (show St w0 _ ((g, 93, rdA A xs.length cap l) :: (go, 35, opv c s 2 0 ⟨#[]⟩ (.slice none 0 0) 0 0 false) :: (gr, 35, z35) :: bs) F from S.out)
         have hu := HU.out
         unfold tailR at hu
         rw [body_2] at hu
         clear HU
         rcases hb : hideR xs l with ⟨b, m⟩ | ⟨p, q⟩
         · rw [hb, Rd.bind_ok] at hu
           have HB := Aside0.mk hb
           have hm := body_le (k := 2) (c := c) (s := s) hl3 (by rw [body_2]; exact hb)
           have hbk := (body_cv (chk := chkL) (k := 2) (c := c) (s := s) (by omega) (by rw [body_2]; exact hb)).1
           obtain ⟨tl, rfl⟩ : ∃ tl, b = .hide tl := by cases b <;> first | exact ⟨_, rfl⟩ | (simp [Body.kind] at hbk)
           rcases he : endR xs m with ⟨_, m2⟩ | ⟨p, q⟩
           · rw [he] at hu
             have HW := Aside0.mk hu
             have HE := Aside0.mk he
             clear hu hb he hbk
             go_wp2_with (first | ((with_reducible refine gate_load rfl ?_); refine ev_fld S ?_) | (go_at_call 56; refine (hide_any _ _ _ _ _ _ _ _ l c s xs S.out HF.out hl3 hl (HB2.out _)).mono ?_; rw [HB.out]; rintro e_ w7 ⟨v_, rfl, S'⟩; obtain ⟨Av_, cv_, rfl⟩ := Kd.R_slice S'.now.2; replace S := Aside0.mk S'; clear S') | (go_at_call 50; (with_reducible refine (end_any _ _ _ _ _ _ _ _ xs S.out).mono ?_); rw [HE.out]; rintro e_ w7 ⟨rfl, S'⟩; replace S := Aside0.mk S'; clear S') | ((with_reducible refine gate_load rfl ?_); refine ev_load S ?_) | ((with_reducible refine gate_st rfl ?_); refine ev_store S ?_; clear S; intro _ S))
             refine bodyPost_ret (results_c1 rfl _ _ _ 35 _ (0, 0) _ rfl (S.out.at_ 2 rfl) Tryd.underlying35 rfl (by kernel_rfl)) rfl ?_
             rw [HW.out]
             exact ⟨_, rfl, S.out.cut3⟩
           · rw [he] at hu
             have HW := Aside0.mk hu
             have HE := Aside0.mk he
             clear hu hb he hbk
             go_wp2_with (first | ((with_reducible refine gate_load rfl ?_); refine ev_fld S ?_) | (go_at_call 56; refine (hide_any _ _ _ _ _ _ _ _ l c s xs S.out HF.out hl3 hl (HB2.out _)).mono ?_; rw [HB.out]; rintro e_ w7 ⟨v_, rfl, S'⟩; obtain ⟨Av_, cv_, rfl⟩ := Kd.R_slice S'.now.2; replace S := Aside0.mk S'; clear S') | (go_at_call 50; (with_reducible refine (end_any _ _ _ _ _ _ _ _ xs S.out).mono ?_); rw [HE.out]; rintro e_ w7 ⟨rfl, cs_, S'⟩; replace S := Aside0.mk S'; clear S'))
             exact ⟨rfl, gotC_bad HW.out S.out (fun _ h => h.1)⟩
         · rw [hb] at hu
           have HW := Aside0.mk hu
           have HB := Aside0.mk hb
           clear hu hb
           go_wp2_with (first | ((with_reducible refine gate_load rfl ?_); refine ev_fld S ?_) | (go_at_call 56; refine (hide_any _ _ _ _ _ _ _ _ l c s xs S.out HF.out hl3 hl (HB2.out _)).mono ?_; rw [HB.out]; rintro e_ w7 ⟨rfl, cs_, cs2_, S'⟩; replace S := Aside0.mk S'; clear S'))
           exact ⟨rfl, gotC_bad HW.out S.out (fun _ h => h)⟩
       · go_upto_region 7 with (first | ((with_reducible refine gate_load rfl ?_); refine ev_fld S ?_) | (go_at_call 53; (with_reducible refine (number_any _ _ _ _ _ _ _ _ xs S.out HF.out hi hl).mono ?_); rw [HR.out]; rintro e_ w7 ⟨rfl, S'⟩; replace S := Aside0.mk S'; clear S') | (go_at_call 54; (with_reducible refine (id_any _ _ _ _ _ _ _ _ xs _ S.out HF.out hj hl).mono ?_); rw [HI.out]; rintro e_ w7 ⟨rfl, S'⟩; replace S := Aside0.mk S'; clear S') | ((with_reducible refine gate_st rfl ?_); (first | refine ev_set2 S ?_ | refine ev_set S ?_); clear S; intro _ S))
         replace S := Aside0.mk (show St w0 _ ((g, 93, rdA A xs.length cap l) :: (go, 35, opv c s 4 0 ⟨#[]⟩ (.slice none 0 0) 0 0 false) :: (gr, 35, z35) :: bs) F from S.out)
         have hu := HU.out
         unfold tailR at hu
         rw [body_4] at hu
         clear HU
         rcases hb : statusR c s xs l with ⟨b, m⟩ | ⟨p, q⟩
         · rw [hb, Rd.bind_ok] at hu
           have HB := Aside0.mk hb
           have hm := body_le (k := 4) (c := c) (s := s) hl3 (by rw [body_4]; exact hb)
           have hbk := (body_cv (chk := chkL) (k := 4) (c := c) (s := s) (by omega) (by rw [body_4]; exact hb)).1
           obtain ⟨ta, tb, tn, rfl⟩ : ∃ ta tb tn, b = .status ta tb tn := by cases b <;> first | exact ⟨_, _, _, rfl⟩ | (simp [Body.kind] at hbk)
           rcases he : endR xs m with ⟨_, m2⟩ | ⟨p, q⟩
           · rw [he] at hu
             have HW := Aside0.mk hu
             have HE := Aside0.mk he
             clear hu hb he hbk
             go_wp2_with (first | ((with_reducible refine gate_load rfl ?_); refine ev_fld S ?_) | (go_at_call 57; refine (status_any _ _ _ _ _ _ _ _ l c s xs S.out HF.out hl3 hl).mono ?_; rw [HB.out]; rintro e_ w7 ⟨v_, rfl, S'⟩; obtain ⟨Av_, cv_, rfl⟩ := Kd.R_slice S'.now.2; replace S := Aside0.mk S'; clear S') | (go_at_call 50; (with_reducible refine (end_any _ _ _ _ _ _ _ _ xs S.out).mono ?_); rw [HE.out]; rintro e_ w7 ⟨rfl, S'⟩; replace S := Aside0.mk S'; clear S') | ((with_reducible refine gate_load rfl ?_); refine ev_load S ?_) | ((with_reducible refine gate_st rfl ?_); refine ev_store S ?_; clear S; intro _ S))
             refine bodyPost_ret (results_c1 rfl _ _ _ 35 _ (0, 0) _ rfl (S.out.at_ 2 rfl) Tryd.underlying35 rfl (by kernel_rfl)) rfl ?_
             rw [HW.out]
             exact ⟨_, rfl, S.out.cut3⟩
           · rw [he] at hu
             have HW := Aside0.mk hu
             have HE := Aside0.mk he
             clear hu hb he hbk
             go_wp2_with (first | ((with_reducible refine gate_load rfl ?_); refine ev_fld S ?_) | (go_at_call 57; refine (status_any _ _ _ _ _ _ _ _ l c s xs S.out HF.out hl3 hl).mono ?_; rw [HB.out]; rintro e_ w7 ⟨v_, rfl, S'⟩; obtain ⟨Av_, cv_, rfl⟩ := Kd.R_slice S'.now.2; replace S := Aside0.mk S'; clear S') | (go_at_call 50; (with_reducible refine (end_any _ _ _ _ _ _ _ _ xs S.out).mono ?_); rw [HE.out]; rintro e_ w7 ⟨rfl, cs_, S'⟩; replace S := Aside0.mk S'; clear S'))
             exact ⟨rfl, gotC_bad HW.out S.out (fun _ h => h.1)⟩
         · rw [hb] at hu
           have HW := Aside0.mk hu
           have HB := Aside0.mk hb
           clear hu hb
           go_wp2_with (first | ((with_reducible refine gate_load rfl ?_); refine ev_fld S ?_) | (go_at_call 57; refine (status_any _ _ _ _ _ _ _ _ l c s xs S.out HF.out hl3 hl).mono ?_; rw [HB.out]; rintro e_ w7 ⟨rfl, cs_, cs2_, S'⟩; replace S := Aside0.mk S'; clear S'))
           exact ⟨rfl, gotC_bad HW.out S.out (fun _ h => h)⟩
     · rw [hi2] at hu
       have HW := Aside0.mk hu
       have HI := Aside0.mk hi2
       have hk3 : k = 1 ∨ k = 2 ∨ k = 4 := by omega
       clear hi2 hu hk
       go_enter Tryd.func44, Tryd.ntmps44
       go_upto_region 1 with (first | ((with_reducible refine gate_new rfl ?_); refine ev_new S 35 z35 ?_; clear S; intro gr _ S; replace S := Aside0.mk S.out.sw))
       go_upto_region 2 with (first | ((with_reducible refine gate_new rfl ?_); refine ev_new S 35 z35 ?_; clear S; intro go _ S; replace S := Aside0.mk S.out.sw))
       rcases hk3 with rfl | rfl | rfl
       all_goals
        go_wp2_with (first | ((with_reducible refine gate_load rfl ?_); refine ev_fld S ?_) | (go_at_call 53; (with_reducible refine (number_any _ _ _ _ _ _ _ _ xs S.out HF.out hi hl).mono ?_); rw [HR.out]; rintro e_ w7 ⟨rfl, S'⟩; replace S := Aside0.mk S'; clear S') | (go_at_call 54; (with_reducible refine (id_any _ _ _ _ _ _ _ _ xs _ S.out HF.out hj hl).mono ?_); rw [HI.out]; rintro e_ w7 ⟨rfl, cs_, S'⟩; replace S := Aside0.mk S'; clear S') | ((with_reducible refine gate_st rfl ?_); (first | refine ev_set2 S ?_ | refine ev_set S ?_); clear S; intro _ S))
        exact ⟨rfl, gotC_bad HW.out S.out (fun _ h => h)⟩
 · have HW := Aside0.mk (show allR chkL xs i = .bad p q by unfold allR cmdR; rw [hr]; rfl)
   have HR := Aside0.mk hr
   clear hr
   go_enter Tryd.func44, Tryd.ntmps44
   go_upto_region 1 with (first | ((with_reducible refine gate_new rfl ?_); refine ev_new S 35 z35 ?_; clear S; intro gr _ S; replace S := Aside0.mk S.out.sw))
   go_upto_region 2 with (first | ((with_reducible refine gate_new rfl ?_); refine ev_new S 35 z35 ?_; clear S; intro go _ S; replace S := Aside0.mk S.out.sw))
   go_wp2_with (first | ((with_reducible refine gate_load rfl ?_); refine ev_fld S ?_) | (go_at_call 53; (with_reducible refine (number_any _ _ _ _ _ _ _ _ xs S.out HF.out hi hl).mono ?_); rw [HR.out]; rintro e_ w7 ⟨rfl, cs_, S'⟩; replace S := Aside0.mk S'; clear S'))
   exact ⟨rfl, gotC_bad HW.out S.out (fun _ h => h)⟩
end Go.Proofs.YtjnicgfkogfifaaDoor
end

section
/- What catches a reader that gives up: the deferred closure, entered while the frame panics, or while it returns. -/
namespace Go.Proofs.YtjnicgfkogfifaaDoor
open Go.RowKit Go.Proofs.YtjnicgfkogfifaaDoor.PAll Go.Proofs.YtjnicgfkogfifaaDoorW.PrintWords Go.Proofs.YtjnicgfkogfifaaDoorW.PrintLast

theorem catch_idle (p q : Addr) (w : World) :
 CallsD Tryd.prog 48 #[.pointer (some p), .pointer (some q)] .returning w fun e u' w' => e = .returned (.tuple #[]) ∧ u' = .returning ∧ w' = w := by
 refine callsD_of_wpS Tryd.func48 rfl fun c₀ cs hu => ?_
 apply wpS_seq
 apply wpS_region
 simp [wpOpsS, go_sem, recoverD, hu, Tryd.ntmps48, Exit.thenS]
 refine wpS_of_wp ?_
 go_wp2
 cases c₀
 simp_all [bodyPostS, results, Tryd.results48]
set_option maxRecDepth 100000 in
set_option maxHeartbeats 4000000 in
theorem catch_panicking (w0 w : World) (bs : List Bx) (F : World → Prop) (ga ge : Nat) (p x : Int) (older : List PanicEntry) (S : St w0 w ((ge, 40, #[.int .i64 0]) :: (ga, 3, #[.int .i64 0]) :: bs) F) :
 CallsD Tryd.prog 48 #[.pointer (some ⟨ga, 0, none⟩), .pointer (some ⟨ge, 0, none⟩)] (.panicking ({ v := .iface 107 (.agg #[.int .i64 p, .int .i64 x]), recovered := false } :: older)) w fun e u' w' =>
  e = .returned (.tuple #[]) ∧ u' = .panicking ({ v := .iface 107 (.agg #[.int .i64 p, .int .i64 x]), recovered := true } :: older) ∧ St w0 w' ((ge, 40, #[.int .i64 x]) :: (ga, 3, #[.int .i64 p]) :: bs) F := by
 replace S := Aside0.mk S
 refine callsD_of_wpS Tryd.func48 rfl fun c₀ cs hu => ?_
 apply wpS_seq
 apply wpS_region
 simp [wpOpsS, go_sem, recoverD, hu, Tryd.ntmps48, Exit.thenS]
 refine wpS_of_wp ?_
 show Code.wp _ _ _ (⟨#[.pointer (some ⟨ga, 0, none⟩), .pointer (some ⟨ge, 0, none⟩), undef, undef, undef, .iface 107 (.agg #[.int .i64 p, .int .i64 x]), undef, undef, undef, undef, undef, undef, undef, undef, undef], []⟩ : Act) _
 have hta : ∀ (v0 v1 : Value) (w : World), (Instr.typeAssert (.iface 107 (.agg #[v0, v1])) 20 107 true).run Tryd.prog w = .ok (.tuple #[.agg #[v0, v1], .bool true]) w := fun _ _ _ => by kernel_rfl
 go_upto_region 7 with (first | ((with_reducible refine gate_new rfl ?_); refine ev_new S 107 #[.int .i64 0, .int .i64 0] ?_; clear S; intro _ _ S) | ((with_reducible refine gate_st rfl ?_); refine ev_store S ?_; clear S; intro _ S))
 rename_i gf _ _
 replace S := Aside0.mk (show St w0 _ ((gf, 107, #[.int .i64 p, .int .i64 x]) :: (ge, 40, #[.int .i64 0]) :: (ga, 3, #[.int .i64 0]) :: bs) F from S.out)
 refine rg_start (n := 6) (fun W => ∃ u v : Value, St w0 W ((gf, 107, #[.int .i64 p, .int .i64 x]) :: (ge, 40, #[u]) :: (ga, 3, #[v]) :: bs) F) [4, 5] ⟨_, _, S.out⟩ (fun _ h => h.elim fun u h => h.elim fun v h => ⟨u, v, h.drew⟩) ?_
 clear S
 rintro _ ⟨u, v, S⟩
 refine pu_ 0 ?_
 refine ta_ 1 (v := .int .i64 p) ⟨_, _, S⟩ (fun w' hS => ?_) ?_
 · obtain ⟨u, v, h⟩ := hS
   have hc := blk_cell (h.at_ 0 rfl)
   have hc0 := hc 0
   go_simp
 refine pu_ 2 ?_
 have rd3 : ∀ w', (∃ u v : Value, St w0 w' ((gf, 107, #[.int .i64 p, .int .i64 x]) :: (ge, 40, #[u]) :: (ga, 3, #[v]) :: bs) F) → w'.cell? ⟨gf, 1, none⟩ = some (.int .i64 x) := fun w' hS => by
  obtain ⟨u, v, h⟩ := hS
  exact blk_cell (h.at_ 0 rfl) 1
 refine re_ (rc_ 3 ?_ (rl_ 4 ?_ AllReadyL.nil))
 · intro K hK
   refine kr_ (v := .int .i64 x) ?_ (hK.out _ _ ⟨_, _, S⟩ (fun hS => ?_))
   · have hc0 := rd3 _ ⟨_, _, S⟩
     go_simp
   clear S hK
   obtain ⟨u, v, S⟩ := hS
   refine nr_ ?_
   refine sc_ 4 2 S ?_
   clear S
   intro _ S
   refine sc_ 5 1 S ?_
   clear S
   intro _ S
   refine done_ (by kernel_rfl) ?_
   replace S := Aside0.mk S
   go_wp2
   refine ⟨rfl, _, rfl, .tuple #[], by simp [results, Tryd.results48], rfl, rfl, S.out.one⟩
 · intro K hK
   refine kc1_ 2 S ?_
   clear S
   intro _ S
   refine hK.out _ _ ?_
   clear hK
   refine ta_ 3 (v := .int .i64 x) ⟨_, _, S⟩ (fun w' hS => ?_) ?_
   · have hc0 := rd3 _ hS
     go_simp
   refine sc_ 5 1 S ?_
   clear S
   intro _ S
   refine done_ (by kernel_rfl) ?_
   replace S := Aside0.mk S
   go_wp2
   refine ⟨rfl, _, rfl, .tuple #[], by simp [results, Tryd.results48], rfl, rfl, S.out.one⟩
end Go.Proofs.YtjnicgfkogfifaaDoor
end

section
/- DecodeOp, by its contract. -/
namespace Go.Proofs.YtjnicgfkogfifaaDoor
open Go.RowKit Go.Proofs.YtjnicgfkogfifaaDoor.PAll Go.Proofs.YtjnicgfkogfifaaDoorW.PrintWords Go.Proofs.YtjnicgfkogfifaaDoorW.PrintLast

abbrev slA (A : Option Addr) (n c : Nat) : Array Value := #[.slice A n c]
theorem St.front2 {w0 w : World} {a b c d : Bx} {bs : List Bx} {F : World → Prop} (S : St w0 w (a :: b :: c :: d :: bs) F) : St w0 w (c :: d :: a :: b :: bs) F :=
 S.perm (by
  have : (a :: b :: c :: d :: bs) = [a, b] ++ ([c, d] ++ bs) := rfl
  rw [this]
  have : (c :: d :: a :: b :: bs) = [c, d] ++ ([a, b] ++ bs) := rfl
  rw [this, ← List.append_assoc, ← List.append_assoc]
  exact (List.perm_append_comm).append_right bs)
end Go.Proofs.YtjnicgfkogfifaaDoor
end

section
/- Commands and messages as bytes: a fault has a number. -/
namespace Go.Proofs.YtjnicgfkogfifaaDoor
def Errs {α : Type} (R : List UInt8 → Nat → Rd α) : Prop := ∀ xs i p e, R xs i = .bad p e → e ≠ 0
theorem Errs.bind {α β : Type} {R : List UInt8 → Nat → Rd α} {f : α → Nat → List UInt8 → Nat → Rd β} (h : Errs R) (hf : ∀ a i, Errs (f a i)) : Errs (fun xs i => (R xs i).bind (fun a j => f a i xs j)) := by
 intro xs i p e hb
 cases hr : R xs i with
 | ok a j => simp only [hr, Rd.bind_ok] at hb; exact hf a i _ _ _ _ hb
 | bad p' e' => simp only [hr, Rd.bind_bad] at hb; cases hb; exact h _ _ _ _ hr
theorem Errs.pure {α : Type} (a : α) : Errs (fun _ i => Rd.ok a i) := fun _ _ _ _ h => nomatch h
theorem Errs.bad {α : Type} (p : List UInt8 → Nat → Int) {e : Int} (he : e ≠ 0) : Errs (fun xs i => (Rd.bad (p xs i) e : Rd α)) := fun _ _ _ _ h => by cases h; exact he
theorem Errs.ite {α : Type} {R T : List UInt8 → Nat → Rd α} {c : Prop} [Decidable c] (h : Errs R) (k : Errs T) : Errs (fun xs i => if c then R xs i else T xs i) := by
 by_cases hc : c
 · simp only [if_pos hc]; exact h
 · simp only [if_neg hc]; exact k
theorem numG_err (xs : List UInt8) (b : Nat) : ∀ (d k i n : Nat) (p e : Int), numG xs b d k i n = .bad p e → e ≠ 0 := by
 intro d
 induction d with
 | zero =>
  intro k i n p e h
  rw [numG] at h
  split at h
  · cases h; omega
  · split at h
    · split at h
      · cases h; omega
      · cases h
    · cases h; omega
 | succ d ih =>
  intro k i n p e h
  rw [numG] at h
  split at h
  · cases h; omega
  · split at h
    · split at h
      · cases h; omega
      · cases h
    · exact ih _ _ _ _ _ h
theorem num_errs : Errs num := fun xs i p e h => numG_err xs i 3 0 i 0 p e h
theorem betw_errs (lo hi : Nat) {e : Int} (he : e ≠ 0) : Errs (betw lo hi e) :=
 Errs.bind (f := fun n i _ j => if n < lo ∨ hi < n then .bad i e else .ok n j) num_errs fun n i => Errs.ite (Errs.bad (fun _ _ => i) he) (Errs.pure n)
section
variable {chk : List UInt8 → Int × Int × Int}
theorem text_errs (p n : Nat) : Errs (textR chk p n) := by
 intro xs i q e h
 unfold textR at h
 split at h
 · cases h; omega
 · split at h
   · rename_i h0; cases h; exact h0
   · split at h
     · cases h; omega
     · split at h
       · cases h; omega
       · cases h
theorem ins_errs : Errs (insR chk) :=
 Errs.bind (f := fun p _ xs i1 => (num xs i1).bind fun n i2 => if n = 0 then .bad i1 15 else if 1024 < n then .bad i1 14 else textR chk p n xs i2) (betw_errs _ _ (by omega)) fun p _ =>
 Errs.bind (f := fun n i1 xs i2 => if n = 0 then .bad i1 15 else if 1024 < n then .bad i1 14 else textR chk p n xs i2) num_errs fun n i1 =>
 Errs.ite (Errs.bad (fun _ _ => i1) (by omega)) (Errs.ite (Errs.bad (fun _ _ => i1) (by omega)) (text_errs p n))
theorem ranges_errs : ∀ (d : Nat) (first : Bool) (hi : Nat), Errs (fun xs i => rangesR xs d first hi i)
 | 0, _, _ => Errs.pure []
 | d + 1, first, hi =>
  Errs.bind (f := fun gap i xs i1 => if gap = 0 ∧ first = false then .bad i 22 else (num xs i1).bind fun n i2 => if n = 0 ∨ 1048576 < hi + gap + n then .bad i1 20 else
   (rangesR xs d false (hi + gap + n) i2).bind fun l i3 => .ok ((hi + gap, hi + gap + n) :: l) i3) num_errs fun gap i =>
  Errs.ite (Errs.bad (fun _ _ => i) (by omega)) (Errs.bind (f := fun n i1 xs i2 => if n = 0 ∨ 1048576 < hi + gap + n then .bad i1 20 else
   (rangesR xs d false (hi + gap + n) i2).bind fun l i3 => .ok ((hi + gap, hi + gap + n) :: l) i3) num_errs fun n i1 =>
  Errs.ite (Errs.bad (fun _ _ => i1) (by omega)) (Errs.bind (f := fun l _ _ i3 => .ok ((hi + gap, hi + gap + n) :: l) i3) (ranges_errs d false (hi + gap + n)) fun _ _ => Errs.pure _))
theorem hide_errs : Errs hideR :=
 Errs.bind (f := fun n i xs i1 => if n = 0 then .bad i 43 else if 32768 < n then .bad i 21 else (rangesR xs n true 0 i1).bind fun l j => Rd.ok (Body.hide l) j) num_errs fun n i =>
 Errs.ite (Errs.bad (fun _ _ => i) (by omega)) (Errs.ite (Errs.bad (fun _ _ => i) (by omega)) (Errs.bind (f := fun l _ _ j => Rd.ok (Body.hide l) j) (ranges_errs n true 0) fun _ _ => Errs.pure _))
theorem status_errs (c s : Nat) : Errs (statusR c s) :=
 Errs.bind (f := fun a _ xs i1 => (betw 1 1024 63 xs i1).bind fun b i2 => if a = c ∧ b = s then .bad i1 63 else (betw 0 1 104 xs i2).bind fun on j => Rd.ok (Body.status a b (decide (on = 1))) j) (betw_errs _ _ (by omega)) fun a _ =>
 Errs.bind (f := fun b i1 xs i2 => if a = c ∧ b = s then .bad i1 63 else (betw 0 1 104 xs i2).bind fun on j => Rd.ok (Body.status a b (decide (on = 1))) j) (betw_errs _ _ (by omega)) fun b i1 =>
 Errs.ite (Errs.bad (fun _ _ => i1) (by omega)) (Errs.bind (f := fun on _ _ j => Rd.ok (Body.status a b (decide (on = 1))) j) (betw_errs _ _ (by omega)) fun _ _ => Errs.pure _)
theorem body_errs (k c s : Nat) : Errs (bodyR chk k c s) := Errs.ite ins_errs (Errs.ite hide_errs (status_errs c s))
theorem cmd_errs : Errs (cmdR chk) :=
 Errs.bind (f := fun k i xs i1 => if k ≠ 1 ∧ k ≠ 2 ∧ k ≠ 4 then .bad i 40 else
  (betw 1 8 41 xs i1).bind fun c i2 => (betw 1 1024 41 xs i2).bind fun s i3 => (bodyR chk k c s xs i3).bind fun b j => Rd.ok (⟨c, s, b⟩ : Cmd) j) num_errs fun k i =>
 Errs.ite (Errs.bad (fun _ _ => i) (by omega)) (Errs.bind (f := fun c _ xs i2 => (betw 1 1024 41 xs i2).bind fun s i3 => (bodyR chk k c s xs i3).bind fun b j => Rd.ok (⟨c, s, b⟩ : Cmd) j) (betw_errs _ _ (by omega)) fun c _ =>
 Errs.bind (f := fun s _ xs i3 => (bodyR chk k c s xs i3).bind fun b j => Rd.ok (⟨c, s, b⟩ : Cmd) j) (betw_errs _ _ (by omega)) fun s _ =>
 Errs.bind (f := fun b _ _ j => Rd.ok (⟨c, s, b⟩ : Cmd) j) (body_errs k c s) fun _ _ => Errs.pure _)
theorem end_errs : Errs endR := fun xs i p e h => by
 unfold endR at h
 split at h
 · cases h; omega
 · cases h
theorem all_errs : Errs (allR chk) := Errs.bind (f := fun o _ xs j => (endR xs j).bind fun _ j => .ok o j) cmd_errs fun o _ => Errs.bind (f := fun _ _ _ j => .ok o j) end_errs fun _ _ => Errs.pure o
theorem mb_errs (k c : Nat) : Errs (mbR chk k c) := by
 unfold mbR
 refine Errs.ite (Errs.pure _) (Errs.ite (Errs.bind (f := fun o i _ j => if o.c ≠ c then .bad i 104 else Rd.ok (MB.submit o) j) all_errs fun o i => Errs.ite (Errs.bad (fun _ _ => i) (by omega)) (Errs.pure _)) (Errs.ite (Errs.bind (f := fun q _ _ j => Rd.ok (MB.ack q) j) (betw_errs _ _ (by omega)) fun _ _ => Errs.pure _) (Errs.bind (f := fun o _ _ j => Rd.ok (MB.cast o) j) all_errs fun _ _ => Errs.pure _)))
theorem msg_err {xs : List UInt8} {p e : Int} (h : msgR chk xs = .bad p e) : e ≠ 0 := by
 have : Errs (fun xs i => (betw 1 4 100 xs i).bind fun k i1 => (betw 1 8 104 xs i1).bind fun c i2 => (betw (least k) 8192 104 xs i2).bind fun r i3 => (mbR chk k c xs i3).bind fun b j => (endR xs j).bind fun _ j => Rd.ok (⟨c, r, b⟩ : MM) j) :=
  Errs.bind (f := fun k _ xs i1 => (betw 1 8 104 xs i1).bind fun c i2 => (betw (least k) 8192 104 xs i2).bind fun r i3 => (mbR chk k c xs i3).bind fun b j => (endR xs j).bind fun _ j => Rd.ok (⟨c, r, b⟩ : MM) j) (betw_errs _ _ (by omega)) fun k _ =>
  Errs.bind (f := fun c _ xs i2 => (betw (least k) 8192 104 xs i2).bind fun r i3 => (mbR chk k c xs i3).bind fun b j => (endR xs j).bind fun _ j => Rd.ok (⟨c, r, b⟩ : MM) j) (betw_errs _ _ (by omega)) fun c _ =>
  Errs.bind (f := fun r _ xs i3 => (mbR chk k c xs i3).bind fun b j => (endR xs j).bind fun _ j => Rd.ok (⟨c, r, b⟩ : MM) j) (betw_errs _ _ (by omega)) fun r _ =>
  Errs.bind (f := fun b _ xs j => (endR xs j).bind fun _ j => Rd.ok (⟨c, r, b⟩ : MM) j) (mb_errs k c) fun b _ =>
  Errs.bind (f := fun _ _ _ j => Rd.ok (⟨c, r, b⟩ : MM) j) end_errs fun _ _ => Errs.pure _
 exact this xs 0 p e h
end
end Go.Proofs.YtjnicgfkogfifaaDoor
end

section
/- DecodeOp, by its contract: the command of bytes; else the byte of the first fault, and why. -/
namespace Go.Proofs.YtjnicgfkogfifaaDoor
open Go.RowKit Go.Proofs.YtjnicgfkogfifaaDoor.PAll Go.Proofs.YtjnicgfkogfifaaDoorW.PrintWords Go.Proofs.YtjnicgfkogfifaaDoorW.PrintLast

theorem foot_bytes {w : World} {A : Option Addr} {xs : List UInt8} (h : BytesAt w A xs) : Foot (fun W => BytesAt W A xs) w (fun _ => True) := fun W' hW k hk => by
 obtain ⟨b, o, hA, hb, hc⟩ := h k hk
 have e := hW b trivial hb
 refine ⟨b, o, hA, ?_, ?_⟩
 · rw [Array.getElem?_eq_getElem hb] at e
   exact (Array.getElem?_eq_some_iff.1 e).1
 · rw [World.cell?_of_block (w := w) (a := ⟨b, o + k, none⟩) e]
   exact hc
theorem foot_gw {w : World} (h : GW w) : Foot GW w (fun _ => True) := fun W' hW => by
 have e := hW 2 trivial (by have := h.1; omega)
 refine ⟨?_, fun i hi => ?_⟩
 · rw [Array.getElem?_eq_getElem (xs := w.heap) (by have := h.1; omega)] at e
   have := (Array.getElem?_eq_some_iff.1 e).1
   omega
 · rw [World.cell?_of_block (w := w) (a := ⟨2, i * 2, none⟩) e, World.cell?_of_block (w := w) (a := ⟨2, i * 2 + 1, none⟩) e]
   exact h.2 i hi
section
variable {P : Program} {ops : Array Oper} {rest : List Oper} {o : Oper} {a : Act} {Q : Exit → Act → World → Prop} {w0 W : World} {bs : List Bx} {F : World → Prop}
theorem ev_box1 (S : Aside0 (St w0 W bs F)) {t : TypeId} {x : Operand} (v : Value) {N : Tmp}
 (h : ∀ g w', Aside0 (St w0 w' ((g, t, #[v]) :: bs) F) → wpList P ops Q rest (a.put (some N) (.pointer (some ⟨g, 0, none⟩))) w')
 (ho : o.op = .box t x := by rfl) (hd : o.dst = some N := by rfl) (hw : Region.wanted o (yielded ops a.tmps) = true := by first | exact wanted_plain rfl | (refine wanted_on rfl ?_; simp [yielded]))
 (hrun : (execOp a.eval o).run P W = .ok (.value (.pointer (some ⟨W.heap.size, 0, none⟩))) (W.alloc (.cells #[v] t (0, 0))) := by first | (go_simp; done) | (go_simp; rfl)) : wpList P ops Q (o :: rest) a W :=
 have _ := ho
 ev_run hw hrun (by rw [hd]; exact h _ _ ⟨S.out.push (below_alloc (Below.refl _ _) _) (blk_new W _) rfl⟩)
end
end Go.Proofs.YtjnicgfkogfifaaDoor
end

section
/- What stands behind a message's head: how each code's rest is read. -/
namespace Go.Proofs.YtjnicgfkogfifaaDoor
open Go.RowKit Go.Proofs.YtjnicgfkogfifaaDoor.PAll Go.Proofs.YtjnicgfkogfifaaDoorW.PrintWords Go.Proofs.YtjnicgfkogfifaaDoorW.PrintLast

abbrev hd4 (k c r q : Int) : List Value := [.int .i64 k, .int .i64 c, .int .i64 r, .int .i64 q]
abbrev mcells (k c r q : Int) (oa : Array Value) : Array Value := (hd4 k c r q ++ oa.toList).toArray
def seqOf : MB → Nat
 | .ack q => q
 | _ => 0
def opaOf (b : MB) (v : Value) : Array Value :=
 match b with
 | .submit o => cmdA o v
 | .cast o => cmdA o v
 | _ => z35
def rowOf (b : MB) : List S54 :=
 match b with
 | .submit o => bodyL o.b
 | .cast o => bodyL o.b
 | _ => []
abbrev mbA (k c r : Int) (b : MB) (v : Value) : Array Value := mcells k c r (seqOf b) (opaOf b v)
def GotM (w0 : World) (bs : List Bx) (F : World → Prop) (g gm : Nat) (A : Option Addr) (n cap : Nat) (k c r : Int) (x : Rd MB) (e : Ending) (w' : World) : Prop :=
 match x with
 | .ok b j => ∃ v, e = .returned (.tuple #[]) ∧ St w0 w' ((g, 93, rdA A n cap j) :: (gm, 37, mbA k c r b v) :: bs) (fun W => F W ∧ Kd.R k54 54 W w0.heap.size (fun _ => True) v (rowOf b))
 | .bad p er => e = flt p er ∧ ∃ cs cs', St w0 w' ((g, 93, cs) :: (gm, 37, cs') :: bs) F
theorem gotM_bad {w0 w : World} {bs : List Bx} {F G : World → Prop} {g gm : Nat} {A : Option Addr} {n cap : Nat} {k c r : Int} {p e : Int} {cs cs' : Array Value} {x : Rd MB} (h : x = .bad p e) (S : St w0 w ((g, 93, cs) :: (gm, 37, cs') :: bs) G) (hG : ∀ W, G W → F W) : GotM w0 bs F g gm A n cap k c r x (flt p e) w := by rw [h]; exact ⟨rfl, cs, cs', S.weak hG⟩
section
variable {P : Program} {ops : Array Oper} {rest : List Oper} {o : Oper} {a : Act} {Q : Exit → Act → World → Prop} {w0 W : World} {bs : List Bx} {F : World → Prop}
theorem ev_suf (S : Aside0 (St w0 W bs F)) {i : Nat} (pre old : List Value) (vs : Array Value) {g : Nat} {t ty : TypeId} {p : Tmp} {v : Operand}
 (h : ∀ w', Aside0 (St w0 w' (bs.set i (g, t, (pre ++ vs.toList).toArray)) F) → wpList P ops Q rest a w')
 (e : bs[i]? = some (g, t, (pre ++ old).toArray))
 (ho : o.op = .store ty (.tmp p) v := by rfl) (hp : a.eval (.tmp p) = .pointer (some ⟨g, pre.length, none⟩) := by rfl) (hv : a.eval v = .agg vs := by rfl) (hN : o.dst = none := by rfl)
 (hw : Region.wanted o (yielded ops a.tmps) = true := by first | exact wanted_plain rfl | (refine wanted_on rfl ?_; first | (simp [yielded]; done) | rfl)) (hs : old.length = vs.size := by rfl) (hi : (P.info? ty).map (·.size) = some vs.size := by kernel_rfl) (h1 : vs.toList.all (·.oneCell') = true := by rfl) : wpList P ops Q (o :: rest) a W := by
 have hb := S.out.at_ i e
 have hrun : (execOp a.eval o).run P W = .ok .skip (W.setCells g pre.length vs.toList) := by
  unfold execOp
  simp only [ho, hp, hv, Sem.run_bind, Sem.run_pure, Result.andThen_ok, run_storeAt_mid W g pre.length ty vs (fun k hk => ⟨by rw [blk_cell hb]; simp at hk ⊢; omega, blk_frozen hb _⟩) hi (by rw [← Array.all_toList]; exact h1)]
 refine ev_skip hw hN hrun (h _ ⟨S.out.put i e (below_setCells _ _ _ S.out.below (S.out.ge i e)) ?_ (fun k hk => setCells_far _ _ _ k hk)⟩)
 exact blk_setCells vs.toList pre old W hb (by rw [hs]; simp)
end
set_option maxRecDepth 100000 in
set_option maxHeartbeats 4000000 in
theorem readSeq_any (w0 w : World) (bs : List Bx) (F : World → Prop) (g gm : Nat) (A : Option Addr) (cap i : Nat) (k c r : Int) (cl : Nat) (xs : List UInt8) (S : St w0 w ((g, 93, rdA A xs.length cap i) :: (gm, 37, mcells k c r 0 z35) :: bs) F) (hF : ∀ W, F W → BytesAt W A xs) (hi : i ≤ xs.length) (hl : xs.length ≤ 140737488351232) :
 Calls Tryd.prog 137 #[.pointer (some ⟨g, 0, none⟩), .pointer (some ⟨gm, 0, none⟩)] w (GotM w0 bs F g gm A xs.length cap k c r (mbR chkL 3 cl xs i)) := by
 have HF := Aside0.mk hF
 replace S := Aside0.mk S
 clear hF
 rcases hr : betw 1 1024 104 xs i with ⟨q, j⟩ | ⟨p, q⟩
 · have HW := Aside0.mk (show mbR chkL 3 cl xs i = .ok (.ack q) j by rw [mb_3]; simp only [hr]; rfl)
   have HR := Aside0.mk hr
   clear hr
   go_enter Tryd.func137, Tryd.ntmps137
   go_wp2_with (first | ((with_reducible refine gate_load rfl ?_); refine ev_fld S ?_) | (go_at_call 49; (with_reducible refine (between_any _ _ _ _ _ _ _ _ xs 1 1024 _ _ _ S.out HF.out hi hl (by omega) (by omega)).mono ?_); rw [HR.out]; rintro e_ w7 ⟨rfl, S'⟩; replace S := Aside0.mk S'; clear S') | ((with_reducible refine gate_st rfl ?_); refine ev_set S ?_; clear S; intro _ S))
   refine ⟨rfl, .tuple #[], by simp [results, Tryd.results137], ?_⟩
   rw [HW.out]
   exact ⟨_, rfl, S.out.addNil⟩
 · have HW := Aside0.mk (show mbR chkL 3 cl xs i = .bad p q by rw [mb_3]; simp only [hr]; rfl)
   have HR := Aside0.mk hr
   clear hr
   go_enter Tryd.func137, Tryd.ntmps137
   go_wp2_with (first | ((with_reducible refine gate_load rfl ?_); refine ev_fld S ?_) | (go_at_call 49; (with_reducible refine (between_any _ _ _ _ _ _ _ _ xs 1 1024 _ _ _ S.out HF.out hi hl (by omega) (by omega)).mono ?_); rw [HR.out]; rintro e_ w7 ⟨rfl, cs_, S'⟩; replace S := Aside0.mk S'; clear S'))
   exact ⟨rfl, gotM_bad HW.out S.out (fun _ h => h)⟩
set_option maxRecDepth 100000 in
set_option maxHeartbeats 4000000 in
theorem readCast_any (w0 w : World) (bs : List Bx) (F : World → Prop) (g gm : Nat) (A : Option Addr) (cap i : Nat) (k c r : Int) (cl : Nat) (xs : List UInt8) (S : St w0 w ((g, 93, rdA A xs.length cap i) :: (gm, 37, mcells k c r 0 z35) :: bs) F) (hF : ∀ W, F W → BytesAt W A xs) (hG : ∀ W, F W → GW W) (hi : i ≤ xs.length) (hl : xs.length ≤ 140737488351232) (hcap : xs.length ≤ cap) (hcap2 : cap ≤ 9223372036854775807) (hbs : ∀ b ∈ bs, b.2.1 ≠ 54) :
 Calls Tryd.prog 139 #[.pointer (some ⟨g, 0, none⟩), .pointer (some ⟨gm, 0, none⟩)] w (GotM w0 bs F g gm A xs.length cap k c r (mbR chkL 4 cl xs i)) := by
 have HF := Aside0.mk hF
 have HG := Aside0.mk hG
 have HBS := Aside0.mk (show ∀ b ∈ ((gm, 37, mcells k c r 0 z35) :: bs : List Bx), b.2.1 ≠ 54 from fun b hb h54 => by
  rcases List.mem_cons.1 hb with rfl | hb
  · exact absurd (show (37 : Nat) = 54 from h54) (by decide)
  · exact hbs b hb h54)
 replace S := Aside0.mk S
 clear hF hG hbs
 rcases hr : allR chkL xs i with ⟨o, j⟩ | ⟨p, q⟩
 · have HW := Aside0.mk (show mbR chkL 4 cl xs i = .ok (.cast o) j by rw [mb_4]; simp only [hr]; rfl)
   have HR := Aside0.mk hr
   obtain ⟨oc, os, ob⟩ := o
   cases ob
   all_goals
    clear hr
    go_enter Tryd.func139, Tryd.ntmps139
    go_wp2_with (first | ((with_reducible refine gate_load rfl ?_); refine ev_fld S ?_) | (go_at_call 44; refine (command_any _ _ _ _ _ _ _ _ xs S.out HF.out HG.out hi hl hcap hcap2 HBS.out).mono ?_; rw [HR.out]; rintro e_ w7 ⟨v_, rfl, S'⟩; obtain ⟨Av_, cv_, rfl⟩ := Kd.R_slice S'.now.2; replace S := Aside0.mk S'; clear S') | ((with_reducible refine gate_st rfl ?_); refine ev_suf (i := 1) S (hd4 _ _ _ _) z35.toList _ ?_ ix1; clear S; intro _ S))
    refine ⟨rfl, .tuple #[], by simp [results, Tryd.results139], ?_⟩
    rw [HW.out]
    exact ⟨_, rfl, S.out⟩
 · have HW := Aside0.mk (show mbR chkL 4 cl xs i = .bad p q by rw [mb_4]; simp only [hr]; rfl)
   have HR := Aside0.mk hr
   clear hr
   go_enter Tryd.func139, Tryd.ntmps139
   go_wp2_with (first | ((with_reducible refine gate_load rfl ?_); refine ev_fld S ?_) | (go_at_call 44; refine (command_any _ _ _ _ _ _ _ _ xs S.out HF.out HG.out hi hl hcap hcap2 HBS.out).mono ?_; rw [HR.out]; rintro e_ w7 ⟨rfl, cs_, S'⟩; replace S := Aside0.mk S'; clear S'))
   exact ⟨rfl, gotM_bad HW.out S.out (fun _ h => h)⟩
set_option maxRecDepth 100000 in
set_option maxHeartbeats 4000000 in
theorem readSubmit_any (w0 w : World) (bs : List Bx) (F : World → Prop) (g gm : Nat) (A : Option Addr) (cap i : Nat) (k r : Int) (cl : Nat) (xs : List UInt8) (S : St w0 w ((g, 93, rdA A xs.length cap i) :: (gm, 37, mcells k cl r 0 z35) :: bs) F) (hF : ∀ W, F W → BytesAt W A xs) (hG : ∀ W, F W → GW W) (hi : i ≤ xs.length) (hl : xs.length ≤ 140737488351232) (hcap : xs.length ≤ cap) (hcap2 : cap ≤ 9223372036854775807) (hbs : ∀ b ∈ bs, b.2.1 ≠ 54) :
 Calls Tryd.prog 135 #[.pointer (some ⟨g, 0, none⟩), .pointer (some ⟨gm, 0, none⟩)] w (GotM w0 bs F g gm A xs.length cap k cl r (mbR chkL 2 cl xs i)) := by
 have HF := Aside0.mk hF
 have HG := Aside0.mk hG
 have HBS := Aside0.mk (show ∀ b ∈ ((gm, 37, mcells k cl r 0 z35) :: bs : List Bx), b.2.1 ≠ 54 from fun b hb h54 => by
  rcases List.mem_cons.1 hb with rfl | hb
  · exact absurd (show (37 : Nat) = 54 from h54) (by decide)
  · exact hbs b hb h54)
 replace S := Aside0.mk S
 clear hF hG hbs
 rcases hr : allR chkL xs i with ⟨o, j⟩ | ⟨p, q⟩
 · have HR := Aside0.mk hr
   have hu : mbR chkL 2 cl xs i = if o.c ≠ cl then .bad i 104 else .ok (.submit o) j := by rw [mb_2]; simp only [hr]; rfl
   obtain ⟨oc, os, ob⟩ := o
   by_cases hc : oc ≠ cl
   · rw [if_pos hc] at hu
     have HW := Aside0.mk hu
     have q1 : ((oc : Int) != (cl : Int)) = true := bne_iff_ne.mpr (by omega)
     clear hu hr hc
     cases ob
     all_goals
      go_enter Tryd.func135, Tryd.ntmps135
      go_upto_region 2 with (first | ((with_reducible refine gate_load rfl ?_); refine ev_fld S ?_) | (go_at_call 44; refine (command_any _ _ _ _ _ _ _ _ xs S.out HF.out HG.out hi hl hcap hcap2 HBS.out).mono ?_; rw [HR.out]; rintro e_ w7 ⟨v_, rfl, S'⟩; obtain ⟨Av_, cv_, rfl⟩ := Kd.R_slice S'.now.2; replace S := Aside0.mk S'; clear S') | ((with_reducible refine gate_st rfl ?_); refine ev_suf (i := 1) S (hd4 _ _ _ _) z35.toList _ ?_ ix1; clear S; intro _ S))
      have S' := S.out; simp only [cmdA, bodyA] at S'; replace S := Aside0.mk S'; clear S'; refine rg_start (n := 12) (fun W => St w0 W _ _) [] S.out (fun _ h => h.drew) ?_; clear S; intro _ S; refine pu_ 0 ?_; refine pu_ 1 ?_; refine pu_ 2 ?_; refine pu_ 3 ?_; refine pu_ 4 ?_; refine pu_ 5 ?_; refine fl_ 6 1 S ?_; refine pu_ 7 ?_; refine pu_ 8 ?_; refine pu_ 9 ?_; refine fl_ 10 1 S ?_; refine pu_ 11 ?_; refine done_ (by kernel_rfl) ?_; replace S := Aside0.mk S
      go_wp2_with (fail)
      exact ⟨rfl, gotM_bad HW.out S.out (fun _ h => h.1)⟩
   · rw [if_neg hc] at hu
     have HW := Aside0.mk hu
     have q1 : ((oc : Int) != (cl : Int)) = false := bne_eq_false_iff_eq.mpr (by omega)
     clear hu hr hc
     cases ob
     all_goals
      go_enter Tryd.func135, Tryd.ntmps135
      go_upto_region 2 with (first | ((with_reducible refine gate_load rfl ?_); refine ev_fld S ?_) | (go_at_call 44; refine (command_any _ _ _ _ _ _ _ _ xs S.out HF.out HG.out hi hl hcap hcap2 HBS.out).mono ?_; rw [HR.out]; rintro e_ w7 ⟨v_, rfl, S'⟩; obtain ⟨Av_, cv_, rfl⟩ := Kd.R_slice S'.now.2; replace S := Aside0.mk S'; clear S') | ((with_reducible refine gate_st rfl ?_); refine ev_suf (i := 1) S (hd4 _ _ _ _) z35.toList _ ?_ ix1; clear S; intro _ S))
      have S' := S.out; simp only [cmdA, bodyA] at S'; replace S := Aside0.mk S'; clear S'; refine rg_start (n := 12) (fun W => St w0 W _ _) [] S.out (fun _ h => h.drew) ?_; clear S; intro _ S; refine pu_ 0 ?_; refine pu_ 1 ?_; refine pu_ 2 ?_; refine pu_ 3 ?_; refine pu_ 4 ?_; refine pu_ 5 ?_; refine fl_ 6 1 S ?_; refine pu_ 7 ?_; refine pu_ 8 ?_; refine pu_ 9 ?_; refine fl_ 10 1 S ?_; refine pu_ 11 ?_; refine done_ (by kernel_rfl) ?_; replace S := Aside0.mk S
      go_wp2_with (fail)
      refine ⟨rfl, .tuple #[], by simp [results, Tryd.results135], ?_⟩
      rw [HW.out]
      exact ⟨_, rfl, S.out⟩
 · have HW := Aside0.mk (show mbR chkL 2 cl xs i = .bad p q by rw [mb_2]; simp only [hr]; rfl)
   have HR := Aside0.mk hr
   clear hr
   go_enter Tryd.func135, Tryd.ntmps135
   go_wp2_with (first | ((with_reducible refine gate_load rfl ?_); refine ev_fld S ?_) | (go_at_call 44; refine (command_any _ _ _ _ _ _ _ _ xs S.out HF.out HG.out hi hl hcap hcap2 HBS.out).mono ?_; rw [HR.out]; rintro e_ w7 ⟨rfl, cs_, S'⟩; replace S := Aside0.mk S'; clear S'))
   exact ⟨rfl, gotM_bad HW.out S.out (fun _ h => h)⟩
end Go.Proofs.YtjnicgfkogfifaaDoor
end
