import Derived.Test.YtagijaijjjaolaaDoorPBLx0
import Derived.Test.YtagijaijjjaolaaDoorPBLx1
import Derived.Test.YtagijaijjjaolaaDoorPBLx2
import Derived.Test.YtagijaijjjaolaaDoorPBLx3
import Derived.Test.YtagijaijjjaolaaDoorPBLx4
import Derived.Test.YtagijaijjjaolaaDoorPBLx5
namespace Go.Proofs.YtagijaijjjaolaaDoor.PBL
open Go.RowKit Go.Proofs.YtagijaijjjaolaaDoorW.PrintWords Go.Proofs.YtagijaijjjaolaaDoorW.PrintLast Go.Proofs.YtagijaijjjaolaaDoorW.PrintMore
attribute [local go_sem] max2_int min2_int max_two min_two max_three min_three max_four min_four
set_option linter.unusedVariables false
set_option linter.unusedSimpArgs false
section
/-! what may change: the blocks S, and new ones -/
structure Keeps (S : Nat → Prop) (w w' : World) : Prop where
  os : w'.os = w.os
  tape : w'.tape = w.tape
  output : w'.output = w.output
  size : w.heap.size ≤ w'.heap.size
  far : ∀ k, k < w.heap.size → ¬ S k → w'.heap[k]? = w.heap[k]?
namespace Keeps
variable {S T : Nat → Prop} {a b c w w' : World}
theorem refl (S : Nat → Prop) (w : World) : Keeps S w w := ⟨rfl, rfl, rfl, Nat.le_refl _, fun _ _ _ => rfl⟩
theorem trans (h : Keeps S a b) (k : Keeps S b c) : Keeps S a c := ⟨k.os.trans h.os, k.tape.trans h.tape, k.output.trans h.output, Nat.le_trans h.size k.size, fun i hi hn => (k.far i (Nat.lt_of_lt_of_le hi h.size) hn).trans (h.far i hi hn)⟩
theorem mono (h : Keeps S a b) (hs : ∀ k, S k → T k) : Keeps T a b := ⟨h.os, h.tape, h.output, h.size, fun i hi hn => h.far i hi fun hS => hn (hs i hS)⟩
theorem of_below (h : Below a.heap.size a b) : Keeps S a b := ⟨h.os, h.tape, h.output, h.size, fun i hi _ => h.block i hi⟩
theorem below {B : Nat} {w0 : World} (h : Keeps S a b) (hS : ∀ k, S k → B ≤ k) (hB : B ≤ a.heap.size) (hb : Below B w0 a) : Below B w0 b := hb.trans ⟨h.os, h.tape, h.output, h.size, fun i hi => h.far i (Nat.lt_of_lt_of_le hi hB) fun hs => by have := hS i hs; omega⟩
theorem set (S : Nat → Prop) (w : World) (g i : Nat) (v : Value) (hg : S g) : Keeps S w (w.setCell ⟨g, i, none⟩ v) := ⟨rfl, rfl, rfl, by simp, fun k _ hn => Below.heap_setCell w _ v k fun e => hn (by rw [e]; exact hg)⟩
theorem drew (h : Keeps S a b) : Keeps S a b.drew := ⟨h.os, h.tape, h.output, h.size, h.far⟩
theorem drewN (h : Keeps S a b) (n : Nat) : Keeps S a (b.drewN n) := ⟨h.os, h.tape, h.output, h.size, h.far⟩
theorem alloc (h : Keeps S a b) (o : Obj) : Keeps S a (b.alloc o) := h.trans (of_below ((Below.refl _ _).alloc (Nat.le_refl _) o))
end Keeps
/-- Block b's cells begin with these values. -/
def Row (w : World) (b : Nat) (t : TypeId) (vs : List Value) : Prop := ∃ cs : Array Value, w.heap[b]? = some (.cells cs t (0, 0)) ∧ ∀ (i : Nat) (v : Value), vs[i]? = some v → cs[i]? = some v
namespace Row
variable {w w' : World} {b : Nat} {t t' : TypeId} {vs : List Value}
theorem lt (h : Row w b t vs) : b < w.heap.size := blk_lt h.choose_spec.1
theorem cell (h : Row w b t vs) {i : Nat} {v : Value} (hv : vs[i]? = some v) : w.cell? ⟨b, i, none⟩ = some v := by
  obtain ⟨cs, e, h⟩ := h
  rw [blk_cell e, h i v hv]
theorem frozen (h : Row w b t vs) (i : Nat) : w.frozen? ⟨b, i, none⟩ = false := blk_frozen h.choose_spec.1 i
theorem same (h : Row w b t vs) (hb : w'.heap[b]? = w.heap[b]?) : Row w' b t vs := by
  obtain ⟨cs, e, h⟩ := h
  exact ⟨cs, hb.trans e, h⟩
theorem far (h : Row w b t vs) {g i : Nat} (hg : b ≠ g) (v : Value) : Row (w.setCell ⟨g, i, none⟩ v) b t vs := h.same (Below.heap_setCell w _ v b hg)
theorem set (h : Row w b t vs) (i : Nat) (v : Value) : Row (w.setCell ⟨b, i, none⟩ v) b t (vs.set i v) := by
  obtain ⟨cs, e, h⟩ := h
  refine ⟨_, blk_set e i v, fun j u hu => ?_⟩
  rw [List.getElem?_set] at hu
  rw [Array.getElem?_setIfInBounds]
  split at hu
  · rename_i hij
    subst hij
    split at hu
    · rename_i hl
      obtain rfl := Option.some.inj hu
      have := h i vs[i] (List.getElem?_eq_getElem hl)
      rw [if_pos rfl, if_pos (Array.getElem?_eq_some_iff.1 this).1]
    · cases hu
  · rename_i hij
    rw [if_neg hij]
    exact h j u hu
theorem ne (h : Row w b t vs) {b' : Nat} {vs' : List Value} (h' : Row w b' t' vs') (ht : t ≠ t') : b ≠ b' := by
  obtain ⟨_, e, _⟩ := h
  obtain ⟨_, e', _⟩ := h'
  exact blk_ne e e' ht
end Row
variable {ok ok2 : Nat → Prop}
/-- A value that is these bytes, at the head of a block. -/
def Byt (ok : Nat → Prop) (w : World) (v : Value) (l : List Int) : Prop := ∃ q c, ok q ∧ v = .slice (some ⟨q, 0, none⟩) l.length c ∧ l.length ≤ c ∧ l.length = 512 ∧ Row w q 5 (l.map (fun x => .int .u8 x))
theorem Byt.same {w w' : World} {v : Value} {l : List Int} (h : Byt ok w v l) (hb : ∀ (q : Nat) (cs : Array Value), w.heap[q]? = some (.cells cs 5 (0, 0)) → w'.heap[q]? = w.heap[q]?) : Byt ok w' v l := by
  obtain ⟨q, c, ho, e, h1, h2, h3⟩ := h
  exact ⟨q, c, ho, e, h1, h2, h3.same (hb q _ h3.choose_spec.1)⟩
theorem Byt.sameO {w w' : World} {v : Value} {l : List Int} (h : Byt ok w v l) (hb : ∀ (q : Nat) (cs : Array Value), ok q → w.heap[q]? = some (.cells cs 5 (0, 0)) → w'.heap[q]? = w.heap[q]?) : Byt ok w' v l := by
  obtain ⟨q, c, ho, e, h1, h2, h3⟩ := h
  exact ⟨q, c, ho, e, h1, h2, h3.same (hb q _ ho h3.choose_spec.1)⟩
theorem Byt.mono {ok' : Nat → Prop} {w : World} {v : Value} {l : List Int} (h : Byt ok w v l) (hk : ∀ k, k < w.heap.size → ok k → ok' k) : Byt ok' w v l := by
  obtain ⟨q, c, ho, e, h1, h2, h3⟩ := h
  exact ⟨q, c, hk q h3.lt ho, e, h1, h2, h3⟩
theorem Byt.reads {w : World} {v : Value} {l : List Int} (h : Byt ok w v l) : ∃ q c, v = .slice (some ⟨q, 0, none⟩) l.length c ∧ l.length ≤ c ∧ Kd.C (Kd.int .u8) w (some ⟨q, 0, none⟩) l.length l := by
  obtain ⟨q, c, ho, e, h1, h2, h3⟩ := h
  refine ⟨q, c, e, h1, Kd.C_of_reads (d := (0 : Int)) ⟨rfl, by omega, fun _ => ⟨_, rfl, fun j hj => ?_⟩⟩⟩
  rw [add_plain]
  refine h3.cell ?_
  rw [List.getElem?_map, List.getElem?_eq_getElem hj, Option.map_some, List.getD_eq_getElem?_getD, List.getElem?_eq_getElem hj]
  rfl
theorem Byt.of_R {w : World} {base : Nat} {okr : Nat → Prop} {v : Value} {l : List Int} (h : Kd.R (Kd.int .u8) 5 w base okr v l) (hl : l.length = 512) (hok : ∀ k, base ≤ k → ok k) : Byt ok w v l := by
  obtain ⟨A, c, rfl⟩ := Kd.R_slice h
  have hr := Kd.R_reads' h
  obtain ⟨inner, hlen, hrow⟩ := Kd.R_own h
  rcases hrow with ⟨_, h0⟩ | ⟨q, cap, cur, ev, _, hq, h1, _, h3, _⟩
  · have : l.length = 0 := h0
    omega
  · injection ev with e1 e2 e3
    subst e1
    refine ⟨q, c, hok q (Kd.R_base h q rfl), rfl, hr.2.1, hl, cur, hq, fun i v hv => ?_⟩
    obtain ⟨_, _, hc⟩ := Kd.reads_of_C (d := (0 : Int)) hr.2.2
    obtain ⟨ad, e, hc⟩ := hc (by omega)
    obtain rfl := Option.some.inj e
    rw [List.getElem?_map] at hv
    by_cases hi : i < l.length
    · rw [List.getElem?_eq_getElem hi, Option.map_some] at hv
      obtain rfl := Option.some.inj hv
      have := hc i hi
      rw [add_plain, blk_cell hq] at this
      rw [this, List.getD_eq_getElem?_getD, List.getElem?_eq_getElem hi]
      rfl
    · rw [List.getElem?_eq_none (by omega)] at hv
      cases hv
/-- Values that are bytes, one by one. -/
def Byts (ok : Nat → Prop) (w : World) (vs : List Value) (ls : List (List Int)) : Prop := vs.length = ls.length ∧ ∀ (i : Nat) (v : Value) (l : List Int), vs[i]? = some v → ls[i]? = some l → Byt ok w v l
theorem Byts.same {w w' : World} {vs : List Value} {ls : List (List Int)} (h : Byts ok w vs ls) (hb : ∀ (q : Nat) (cs : Array Value), w.heap[q]? = some (.cells cs 5 (0, 0)) → w'.heap[q]? = w.heap[q]?) : Byts ok w' vs ls := ⟨h.1, fun i v l e1 e2 => (h.2 i v l e1 e2).same hb⟩
theorem Byts.sameO {w w' : World} {vs : List Value} {ls : List (List Int)} (h : Byts ok w vs ls) (hb : ∀ (q : Nat) (cs : Array Value), ok q → w.heap[q]? = some (.cells cs 5 (0, 0)) → w'.heap[q]? = w.heap[q]?) : Byts ok w' vs ls := ⟨h.1, fun i v l e1 e2 => (h.2 i v l e1 e2).sameO hb⟩
theorem Byts.mono {ok' : Nat → Prop} {w : World} {vs : List Value} {ls : List (List Int)} (h : Byts ok w vs ls) (hk : ∀ k, k < w.heap.size → ok k → ok' k) : Byts ok' w vs ls := ⟨h.1, fun i v l e1 e2 => (h.2 i v l e1 e2).mono hk⟩
theorem Byts.set {w : World} {vs : List Value} {ls : List (List Int)} (h : Byts ok w vs ls) (i : Nat) {v : Value} {l : List Int} (hv : Byt ok w v l) : Byts ok w (vs.set i v) (ls.set i l) := by
  refine ⟨by rw [List.length_set, List.length_set, h.1], fun j u m hu hm => ?_⟩
  rw [List.getElem?_set] at hu hm
  split at hu
  · rename_i hij
    rw [if_pos hij] at hm
    split at hu
    · split at hm
      · obtain rfl := Option.some.inj hu
        obtain rfl := Option.some.inj hm
        exact hv
      · cases hm
    · cases hu
  · rename_i hij
    rw [if_neg hij] at hm
    exact h.2 j u m hu hm
theorem Byts.at {w : World} {vs : List Value} {ls : List (List Int)} (h : Byts ok w vs ls) {i : Nat} (hi : i < ls.length) : ∃ v, vs[i]? = some v ∧ Byt ok w v ls[i] := by
  have hi2 : i < vs.length := by rw [h.1]; exact hi
  exact ⟨vs[i], List.getElem?_eq_getElem hi2, h.2 i _ _ (List.getElem?_eq_getElem hi2) (List.getElem?_eq_getElem hi)⟩
/-- The blocks that a disk alone writes. -/
structure Own where
  g : Nat
  bn : Nat
  bf : Nat
  bd : Nat
  cn : Nat
  cf : Nat
  cd : Nat
def Own.has (o : Own) (k : Nat) : Prop := k = o.g ∨ k = o.bn ∨ k = o.bf ∨ k = o.bd
/-- Blocks, as they are, as they last, and which are dirty. -/
structure DS where
  now : List (List Int)
  firm : List (List Int)
  dirty : List Bool
structure Dk (ok : Nat → Prop) (T : TypeId) (w : World) (o : Own) (s : DS) : Prop where
  n0 : 0 < s.now.length
  n1 : s.now.length ≤ 256
  nf : s.firm.length = s.now.length
  nd : s.dirty.length = s.now.length
  str : w.heap[o.g]? = some (.cells #[.slice (some ⟨o.bn, 0, none⟩) s.now.length o.cn, .slice (some ⟨o.bf, 0, none⟩) s.now.length o.cf, .slice (some ⟨o.bd, 0, none⟩) s.now.length o.cd] T (0, 0)) ∧ s.now.length ≤ o.cn ∧ s.now.length ≤ o.cf ∧ s.now.length ≤ o.cd
  vn : ∃ vs, Row w o.bn 22 vs ∧ Byts ok w vs s.now
  vf : ∃ vs, Row w o.bf 22 vs ∧ Byts ok w vs s.firm
  vd : Row w o.bd 4 (s.dirty.map .bool)
  ne : o.bn ≠ o.bf
theorem Dk.same {T : TypeId} {w w' : World} {o : Own} {s : DS} (h : Dk ok T w o s) (ho : ∀ k, o.has k → w'.heap[k]? = w.heap[k]?) (hb : ∀ (q : Nat) (cs : Array Value), w.heap[q]? = some (.cells cs 5 (0, 0)) → w'.heap[q]? = w.heap[q]?) : Dk ok T w' o s := by
  obtain ⟨e, h1⟩ := h.str
  obtain ⟨vs, r1, b1⟩ := h.vn
  obtain ⟨vf, r2, b2⟩ := h.vf
  exact ⟨h.n0, h.n1, h.nf, h.nd, ⟨(ho _ (.inl rfl)).trans e, h1⟩, ⟨vs, r1.same (ho _ (.inr (.inl rfl))), b1.same hb⟩, ⟨vf, r2.same (ho _ (.inr (.inr (.inl rfl)))), b2.same hb⟩, h.vd.same (ho _ (.inr (.inr (.inr rfl)))), h.ne⟩
theorem Dk.sameO {T : TypeId} {w w' : World} {o : Own} {s : DS} (h : Dk ok T w o s) (ho : ∀ k, o.has k → w'.heap[k]? = w.heap[k]?) (hb : ∀ (q : Nat) (cs : Array Value), ok q → w.heap[q]? = some (.cells cs 5 (0, 0)) → w'.heap[q]? = w.heap[q]?) : Dk ok T w' o s := by
  obtain ⟨e, h1⟩ := h.str
  obtain ⟨vs, r1, b1⟩ := h.vn
  obtain ⟨vf, r2, b2⟩ := h.vf
  exact ⟨h.n0, h.n1, h.nf, h.nd, ⟨(ho _ (.inl rfl)).trans e, h1⟩, ⟨vs, r1.same (ho _ (.inr (.inl rfl))), b1.sameO hb⟩, ⟨vf, r2.same (ho _ (.inr (.inr (.inl rfl)))), b2.sameO hb⟩, h.vd.same (ho _ (.inr (.inr (.inr rfl)))), h.ne⟩
theorem Dk.mono {ok' : Nat → Prop} {T : TypeId} {w : World} {o : Own} {s : DS} (h : Dk ok T w o s) (hk : ∀ k, k < w.heap.size → ok k → ok' k) : Dk ok' T w o s := by
  obtain ⟨vs, r1, b1⟩ := h.vn
  obtain ⟨vf, r2, b2⟩ := h.vf
  exact ⟨h.n0, h.n1, h.nf, h.nd, h.str, ⟨vs, r1, b1.mono hk⟩, ⟨vf, r2, b2.mono hk⟩, h.vd, h.ne⟩
theorem Dk.lt {T : TypeId} {w : World} {o : Own} {s : DS} (h : Dk ok T w o s) : ∀ k, o.has k → k < w.heap.size := by
  obtain ⟨e, h1⟩ := h.str
  obtain ⟨vs, r1, b1⟩ := h.vn
  obtain ⟨vf, r2, b2⟩ := h.vf
  rintro k (rfl | rfl | rfl | rfl)
  · exact blk_lt e
  · exact r1.lt
  · exact r2.lt
  · exact h.vd.lt
theorem Dk.below {T : TypeId} {w w' : World} {o : Own} {s : DS} (h : Dk ok T w o s) (hb : Below w.heap.size w w') : Dk ok T w' o s := h.same (fun k hk => hb.block k (h.lt k hk)) fun q cs e => hb.block q (blk_lt e)
/-- No block of a disk's own holds bytes. -/
theorem Dk.own_ne {T : TypeId} {w : World} {o : Own} {s : DS} (h : Dk ok T w o s) (hT : T ≠ 5) {q : Nat} {cs : Array Value} (e : w.heap[q]? = some (.cells cs 5 (0, 0))) : ¬ o.has q := by
  obtain ⟨e1, h1⟩ := h.str
  obtain ⟨vs, ⟨_, r1, _⟩, b1⟩ := h.vn
  obtain ⟨vf, ⟨_, r2, _⟩, b2⟩ := h.vf
  obtain ⟨_, r3, _⟩ := h.vd
  rintro (rfl | rfl | rfl | rfl)
  · exact blk_ne e1 e hT rfl
  · exact blk_ne r1 e (by decide) rfl
  · exact blk_ne r2 e (by decide) rfl
  · exact blk_ne r3 e (by decide) rfl
/-- Another disk is written: this one stays. -/
theorem Dk.other {T T' : TypeId} {w w' : World} {o o' : Own} {s s' : DS} (h : Dk ok T w o s) (h' : Dk ok2 T' w o' s') (hT : T' ≠ 5) (hne : ∀ k, o.has k → ¬ o'.has k) (hk : Keeps o'.has w w') : Dk ok T w' o s :=
  h.same (fun k hk1 => hk.far k (h.lt k hk1) (hne k hk1)) fun q cs e => hk.far q (blk_lt e) (h'.own_ne hT e)
theorem Dk.c0 {T : TypeId} {w : World} {o : Own} {s : DS} (h : Dk ok T w o s) {n : Nat} (hn : s.now.length = n) : w.cell? ⟨o.g, 0, none⟩ = some (.slice (some ⟨o.bn, 0, none⟩) n o.cn) := by subst hn; exact (blk_cell h.str.1 0).trans rfl
theorem Dk.c1 {T : TypeId} {w : World} {o : Own} {s : DS} (h : Dk ok T w o s) {n : Nat} (hn : s.now.length = n) : w.cell? ⟨o.g, 1, none⟩ = some (.slice (some ⟨o.bf, 0, none⟩) n o.cf) := by subst hn; exact (blk_cell h.str.1 1).trans rfl
theorem Dk.c2 {T : TypeId} {w : World} {o : Own} {s : DS} (h : Dk ok T w o s) {n : Nat} (hn : s.now.length = n) : w.cell? ⟨o.g, 2, none⟩ = some (.slice (some ⟨o.bd, 0, none⟩) n o.cd) := by subst hn; exact (blk_cell h.str.1 2).trans rfl
theorem Dk.kn {T : TypeId} {w : World} {o : Own} {s : DS} (h : Dk ok T w o s) {i : Nat} (hi : i < s.now.length) : ∃ u, w.cell? ⟨o.bn, i, none⟩ = some u ∧ w.frozen? ⟨o.bn, i, none⟩ = false := by
  obtain ⟨vs, r, b⟩ := h.vn
  obtain ⟨u, hu, _⟩ := b.at hi
  exact ⟨u, r.cell hu, r.frozen i⟩
theorem Dk.kf {T : TypeId} {w : World} {o : Own} {s : DS} (h : Dk ok T w o s) {i : Nat} (hi : i < s.now.length) : ∃ u, w.cell? ⟨o.bf, i, none⟩ = some u ∧ w.frozen? ⟨o.bf, i, none⟩ = false := by
  obtain ⟨vs, r, b⟩ := h.vf
  obtain ⟨u, hu, _⟩ := b.at (by rw [h.nf]; exact hi)
  exact ⟨u, r.cell hu, r.frozen i⟩
theorem Dk.kd {T : TypeId} {w : World} {o : Own} {s : DS} (h : Dk ok T w o s) {i : Nat} (hi : i < s.now.length) : ∃ b, s.dirty[i]? = some b ∧ w.cell? ⟨o.bd, i, none⟩ = some (.bool b) ∧ w.frozen? ⟨o.bd, i, none⟩ = false := by
  have hi2 : i < s.dirty.length := by rw [h.nd]; exact hi
  exact ⟨s.dirty[i], List.getElem?_eq_getElem hi2, h.vd.cell (by rw [List.getElem?_map, List.getElem?_eq_getElem hi2]; rfl), h.vd.frozen i⟩
/-- A fault. -/
def FaultAt (w : World) (v : Value) (c : Int) : Prop := ∃ g cs, v = .iface 68 (.pointer (some ⟨g, 0, none⟩)) ∧ w.heap[g]? = some (.cells #[.int .i64 c, cs] 72 (0, 0))
theorem FaultAt.below {w w' : World} {v : Value} {c : Int} (h : FaultAt w v c) (hb : Below w.heap.size w w') : FaultAt w' v c := by
  obtain ⟨g, cs, e, h⟩ := h
  exact ⟨g, cs, e, blk_below h hb⟩
theorem FaultAt.num {w : World} {v : Value} {c : Int} (h : FaultAt w v c) (hc : c ≠ 0) (hg : w.cell? ⟨0, 0, none⟩ = some (.iface 94 (.agg #[.pointer (some ⟨1, 28, none⟩)]))) : Calls Tryd.prog 25 #[v] w fun e w' => e = .returned (.int .i64 c) ∧ Below w.heap.size w w' := by
  obtain ⟨g, cs, rfl, h⟩ := h
  exact Errs.num_P g c w hc hg ((blk_cell h 0).trans rfl)
end

end Go.Proofs.YtagijaijjjaolaaDoor.PBL
