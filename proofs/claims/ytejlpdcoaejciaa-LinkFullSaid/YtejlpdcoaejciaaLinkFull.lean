/- LinkFull: room for most packets, not one more; refused whole. -/
import Derived.Test.YtejlpdcoaejciaaLinkDeliver
import Derived.Test.YtejlpdcoaejciaaLinkNew
import Derived.Test.YtejlpdcoaejciaaLaw
namespace Go.Proofs.Ytejlpdcoaejciaa
open Go.ChangeShapes Go.WideShapes Go.ChangeAt Go.RowKit

theorem pick16_mod (n m : Int) (h : 0 < m) : (if n.tmod m < 0 then n.tmod m + m else n.tmod m) = n % m := by
  have h1 := Int.tmod_lt_of_pos n h
  have h2 : -m < n.tmod m := Int.lt_tmod_of_pos n h
  have h3 : (n.tmod m) % m = n % m := by
    rw [Int.tmod_def, show n - m * n.tdiv m = n + m * (- n.tdiv m) by rw [Int.mul_neg]; omega, Int.add_mul_emod_self_left]
  split
  · rw [← h3, ← Int.add_emod_right, Int.emod_eq_of_lt (by omega) (by omega)]
  · rw [← h3, Int.emod_eq_of_lt (by omega) (by omega)]
theorem pick16_any (n m : Int) (w : World) (h : 0 < m) (hm : m ≤ 4000000000000000000) :
    Calls Try.prog 18 #[.int .i64 n, .int .i64 m] w fun e w' => e = .returned (.int .i64 (n % m)) ∧ w = w' := by
  have h1 := Int.tmod_lt_of_pos n h
  have h2 : -m < n.tmod m := Int.lt_tmod_of_pos n h
  have h3 : ¬ m = 0 := by omega
  have HR := Lib.hid (pick16_mod n m h)
  by_cases hneg : n.tmod m < 0
  · go_enter Try.func18, Try.ntmps18
    go_wp2
    go_ret
    refine ⟨?_, rfl⟩
    rw [← HR.out, if_pos hneg]
    rfl
  · go_enter Try.func18, Try.ntmps18
    go_wp2
    go_ret
    refine ⟨?_, rfl⟩
    rw [← HR.out, if_neg (by omega)]
    rfl

/-- A packet of the statement's own, with the value of its bytes. -/
structure PkV where
  p : PacketR
  v : Value
def pcells (q : PkV) : List Value := [.int .i64 q.p.a, .int .i64 q.p.b, q.v]
def pflat (qs : List PkV) : List Value := qs.flatMap pcells
theorem pflat_append (a b : List PkV) : pflat (a ++ b) = pflat a ++ pflat b := by simp [pflat]
theorem pflat_len (qs : List PkV) : (pflat qs).length = qs.length * 3 := by
  induction qs with
  | nil => rfl
  | cons q qs ih => rw [show pflat (q :: qs) = pcells q ++ pflat qs from rfl, List.length_append, ih, List.length_cons]; simp [pcells]; omega
theorem pflat_get (qs : List PkV) (k : Nat) (h : k < qs.length) : (pflat qs)[k * 3]? = some (.int .i64 qs[k].p.a) ∧ (pflat qs)[k * 3 + 1]? = some (.int .i64 qs[k].p.b) ∧ (pflat qs)[k * 3 + 2]? = some qs[k].v := by
  induction qs generalizing k with
  | nil => simp at h
  | cons q qs ih =>
    rw [show pflat (q :: qs) = pcells q ++ pflat qs from rfl]
    cases k with
    | zero => exact ⟨rfl, rfl, rfl⟩
    | succ k =>
      have h5 : ∀ j, (pcells q ++ pflat qs)[(k + 1) * 3 + j]? = (pflat qs)[k * 3 + j]? := fun j => by
        rw [List.getElem?_append_right (by simp [pcells]; omega)]
        congr 1
        simp [pcells]; omega
      obtain ⟨i0, i1, i2⟩ := ih k (by simpa using h)
      exact ⟨(h5 0).trans i0, (h5 1).trans i1, (h5 2).trans i2⟩
def PkOwn (w : World) (base : Nat) (v : Value) (qs : List PkV) : Prop := w.ownsRow base 36 3 v qs.length (pflat qs) ∧ ∀ q ∈ qs, w.ownsRow base 5 1 q.v q.p.l.length (vals q.p.l)
theorem PkOwn.kept {w w' : World} {base : Nat} {v : Value} {qs : List PkV} (h : PkOwn w base v qs) (hb : Below w.heap.size w w') : PkOwn w' base v qs := ⟨own_kept h.1 hb, fun q hq => own_kept (h.2 q hq) hb⟩
theorem own_not {w : World} {base base' : Nat} {e e' : TypeId} {size size' n n' : Nat} {u v : Value} {xs ys : List Value} (hu : w.ownsRow base e size u n xs) (hv : w.ownsRow base' e' size' v n' ys) (hne : e ≠ e') (k : Nat) (h1 : u.ownBlock = some k) : ¬ v.ownBlock = some k := by
  intro h2
  rcases hv.2 with ⟨h, _⟩ | ⟨k', _, _, h, _, hh, _⟩
  · rw [h] at h2; simp [Value.ownBlock] at h2
  · rw [h] at h2
    have : k' = k := by simpa [Value.ownBlock] using h2
    subst this
    exact own_ne hu hh hne h1
/-- Packets outlive what a link does. -/
theorem PkOwn.link {w w' : World} {base base' g : Nat} {nodes most next : Int} {v pv : Value} {fs : List FlightR} {qs : List PkV} (h : PkOwn w base pv qs) (hL : LinkAt w base' g nodes most next v fs) (hc : Chg (fun k => k = g ∨ v.ownBlock = some k) w w') : PkOwn w' base pv qs := by
  refine ⟨own_chg h.1 hc fun k hk hs => ?_, fun q hq => own_chg (h.2 q hq) hc fun k hk hs => ?_⟩
  · rcases hs with e | e
    · exact own_ne h.1 hL.1 (by decide) (by rw [hk, e])
    · exact own_not h.1 hL.2.2.1 (by decide) k hk e
  · rcases hs with e | e
    · exact own_ne (h.2 q hq) hL.1 (by decide) (by rw [hk, e])
    · exact own_not (h.2 q hq) hL.2.2.1 (by decide) k hk e
theorem PkOwn.at {w : World} {base b n c : Nat} {qs : List PkV} (h : PkOwn w base (.slice (some ⟨b, 0, none⟩) n c) qs) (m : Nat) : PkAt w (some ⟨b, 0, none⟩) ((qs.map (·.p)).take m) := by
  intro k hk
  rw [List.length_take, List.length_map] at hk
  have hkq : k < qs.length := by omega
  obtain ⟨f0, f1, f2⟩ := pflat_get qs k hkq
  have hbl := (h.1.lt b rfl).2
  have hn : n = qs.length := by
    rcases h.1.2 with ⟨h', _⟩ | ⟨_, _, _, h', _⟩
    · cases h'
    · simp only [Value.slice.injEq] at h'; exact h'.2.1
  subst hn
  have hx : ∀ j u, (pflat qs)[j]? = some u → w.cell? ⟨b, j, none⟩ = some u := fun j u hu => by
    have hj : j < (pflat qs).length := (List.getElem?_eq_some_iff.1 hu).1
    rw [pflat_len] at hj
    rw [h.1.cellAt j hj, hu]
  rw [List.getElem_take, List.getElem_map]
  exact ⟨b, 0, qs[k].v, rfl, hbl, by rw [Nat.zero_add]; exact hx _ _ f0, by rw [Nat.zero_add]; exact hx _ _ f1, by rw [Nat.zero_add]; exact hx _ _ f2, IsBytes.own (h.2 _ (List.getElem_mem hkq))⟩
end Go.Proofs.Ytejlpdcoaejciaa
