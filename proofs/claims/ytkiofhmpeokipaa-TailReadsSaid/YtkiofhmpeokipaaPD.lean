import Derived.Test.YtkiofhmpeokipaaPTAx0
import Derived.Test.YtkiofhmpeokipaaPTAx1
import Derived.Test.YtkiofhmpeokipaaPTAx2
import Derived.Test.YtkiofhmpeokipaaPTAx3
import Derived.Test.YtkiofhmpeokipaaPTAx4
import Derived.Test.YtkiofhmpeokipaaPTAx5
import Derived.Test.YtkiofhmpeokipaaPTAx7
namespace Go.Proofs.Ytkiofhmpeokipaa.PTA
open Go.RowKit Go.Proofs.YtkiofhmpeokipaaW.PrintWords Go.Proofs.YtkiofhmpeokipaaW.PrintLast Go.Proofs.YtkiofhmpeokipaaW.PrintMore
attribute [local go_sem] max2_int min2_int max_two min_two max_three min_three max_four min_four
set_option linter.unusedVariables false
set_option linter.unusedSimpArgs false
section
/-! what may change: the blocks S, and new ones -/
structure Keeps (S : Nat → Prop) (w w' : World) : Prop where
  os : w'.os = w.os
  tape : w'.tape = w.tape
  output : w'.output = w.output
  size : w.heap.size ≤ w'.heap.size
  far : ∀ k, k < w.heap.size → ¬ S k → w'.heap[k]? = w.heap[k]?
namespace Keeps
variable {S T : Nat → Prop} {a b c w w' : World}
theorem refl (S : Nat → Prop) (w : World) : Keeps S w w := ⟨rfl, rfl, rfl, Nat.le_refl _, fun _ _ _ => rfl⟩
theorem trans (h : Keeps S a b) (k : Keeps S b c) : Keeps S a c := ⟨k.os.trans h.os, k.tape.trans h.tape, k.output.trans h.output, Nat.le_trans h.size k.size, fun i hi hn => (k.far i (Nat.lt_of_lt_of_le hi h.size) hn).trans (h.far i hi hn)⟩
theorem mono (h : Keeps S a b) (hs : ∀ k, S k → T k) : Keeps T a b := ⟨h.os, h.tape, h.output, h.size, fun i hi hn => h.far i hi fun hS => hn (hs i hS)⟩
theorem of_below (h : Below a.heap.size a b) : Keeps S a b := ⟨h.os, h.tape, h.output, h.size, fun i hi _ => h.block i hi⟩
theorem below {B : Nat} {w0 : World} (h : Keeps S a b) (hS : ∀ k, S k → B ≤ k) (hB : B ≤ a.heap.size) (hb : Below B w0 a) : Below B w0 b := hb.trans ⟨h.os, h.tape, h.output, h.size, fun i hi => h.far i (Nat.lt_of_lt_of_le hi hB) fun hs => by have := hS i hs; omega⟩
theorem set (S : Nat → Prop) (w : World) (g i : Nat) (v : Value) (hg : S g) : Keeps S w (w.setCell ⟨g, i, none⟩ v) := ⟨rfl, rfl, rfl, by simp, fun k _ hn => Below.heap_setCell w _ v k fun e => hn (by rw [e]; exact hg)⟩
theorem drew (h : Keeps S a b) : Keeps S a b.drew := ⟨h.os, h.tape, h.output, h.size, h.far⟩
theorem drewN (h : Keeps S a b) (n : Nat) : Keeps S a (b.drewN n) := ⟨h.os, h.tape, h.output, h.size, h.far⟩
theorem alloc (h : Keeps S a b) (o : Obj) : Keeps S a (b.alloc o) := h.trans (of_below ((Below.refl _ _).alloc (Nat.le_refl _) o))
end Keeps
/-- Block b's cells begin with these values. -/
def Row (w : World) (b : Nat) (t : TypeId) (vs : List Value) : Prop := ∃ cs : Array Value, w.heap[b]? = some (.cells cs t (0, 0)) ∧ ∀ (i : Nat) (v : Value), vs[i]? = some v → cs[i]? = some v
namespace Row
variable {w w' : World} {b : Nat} {t t' : TypeId} {vs : List Value}
theorem lt (h : Row w b t vs) : b < w.heap.size := blk_lt h.choose_spec.1
theorem cell (h : Row w b t vs) {i : Nat} {v : Value} (hv : vs[i]? = some v) : w.cell? ⟨b, i, none⟩ = some v := by
  obtain ⟨cs, e, h⟩ := h
  rw [blk_cell e, h i v hv]
theorem frozen (h : Row w b t vs) (i : Nat) : w.frozen? ⟨b, i, none⟩ = false := blk_frozen h.choose_spec.1 i
theorem same (h : Row w b t vs) (hb : w'.heap[b]? = w.heap[b]?) : Row w' b t vs := by
  obtain ⟨cs, e, h⟩ := h
  exact ⟨cs, hb.trans e, h⟩
theorem far (h : Row w b t vs) {g i : Nat} (hg : b ≠ g) (v : Value) : Row (w.setCell ⟨g, i, none⟩ v) b t vs := h.same (Below.heap_setCell w _ v b hg)
theorem set (h : Row w b t vs) (i : Nat) (v : Value) : Row (w.setCell ⟨b, i, none⟩ v) b t (vs.set i v) := by
  obtain ⟨cs, e, h⟩ := h
  refine ⟨_, blk_set e i v, fun j u hu => ?_⟩
  rw [List.getElem?_set] at hu
  rw [Array.getElem?_setIfInBounds]
  split at hu
  · rename_i hij
    subst hij
    split at hu
    · rename_i hl
      obtain rfl := Option.some.inj hu
      have := h i vs[i] (List.getElem?_eq_getElem hl)
      rw [if_pos rfl, if_pos (Array.getElem?_eq_some_iff.1 this).1]
    · cases hu
  · rename_i hij
    rw [if_neg hij]
    exact h j u hu
theorem ne (h : Row w b t vs) {b' : Nat} {vs' : List Value} (h' : Row w b' t' vs') (ht : t ≠ t') : b ≠ b' := by
  obtain ⟨_, e, _⟩ := h
  obtain ⟨_, e', _⟩ := h'
  exact blk_ne e e' ht
end Row
variable {ok ok2 : Nat → Prop}
/-- A value that is these bytes, at the head of a block. -/
def Byt (ok : Nat → Prop) (w : World) (v : Value) (l : List Int) : Prop := ∃ q c, ok q ∧ v = .slice (some ⟨q, 0, none⟩) l.length c ∧ l.length ≤ c ∧ l.length = 512 ∧ Row w q 5 (l.map (fun x => .int .u8 x))
theorem Byt.same {w w' : World} {v : Value} {l : List Int} (h : Byt ok w v l) (hb : ∀ (q : Nat) (cs : Array Value), w.heap[q]? = some (.cells cs 5 (0, 0)) → w'.heap[q]? = w.heap[q]?) : Byt ok w' v l := by
  obtain ⟨q, c, ho, e, h1, h2, h3⟩ := h
  exact ⟨q, c, ho, e, h1, h2, h3.same (hb q _ h3.choose_spec.1)⟩
theorem Byt.sameO {w w' : World} {v : Value} {l : List Int} (h : Byt ok w v l) (hb : ∀ (q : Nat) (cs : Array Value), ok q → w.heap[q]? = some (.cells cs 5 (0, 0)) → w'.heap[q]? = w.heap[q]?) : Byt ok w' v l := by
  obtain ⟨q, c, ho, e, h1, h2, h3⟩ := h
  exact ⟨q, c, ho, e, h1, h2, h3.same (hb q _ ho h3.choose_spec.1)⟩
theorem Byt.mono {ok' : Nat → Prop} {w : World} {v : Value} {l : List Int} (h : Byt ok w v l) (hk : ∀ k, k < w.heap.size → ok k → ok' k) : Byt ok' w v l := by
  obtain ⟨q, c, ho, e, h1, h2, h3⟩ := h
  exact ⟨q, c, hk q h3.lt ho, e, h1, h2, h3⟩
theorem Byt.reads {w : World} {v : Value} {l : List Int} (h : Byt ok w v l) : ∃ q c, v = .slice (some ⟨q, 0, none⟩) l.length c ∧ l.length ≤ c ∧ Kd.C (Kd.int .u8) w (some ⟨q, 0, none⟩) l.length l := by
  obtain ⟨q, c, ho, e, h1, h2, h3⟩ := h
  refine ⟨q, c, e, h1, Kd.C_of_reads (d := (0 : Int)) ⟨rfl, by omega, fun _ => ⟨_, rfl, fun j hj => ?_⟩⟩⟩
  rw [add_plain]
  refine h3.cell ?_
  rw [List.getElem?_map, List.getElem?_eq_getElem hj, Option.map_some, List.getD_eq_getElem?_getD, List.getElem?_eq_getElem hj]
  rfl
theorem Byt.of_R {w : World} {base : Nat} {okr : Nat → Prop} {v : Value} {l : List Int} (h : Kd.R (Kd.int .u8) 5 w base okr v l) (hl : l.length = 512) (hok : ∀ k, base ≤ k → ok k) : Byt ok w v l := by
  obtain ⟨A, c, rfl⟩ := Kd.R_slice h
  have hr := Kd.R_reads' h
  obtain ⟨inner, hlen, hrow⟩ := Kd.R_own h
  rcases hrow with ⟨_, h0⟩ | ⟨q, cap, cur, ev, _, hq, h1, _, h3, _⟩
  · have : l.length = 0 := h0
    omega
  · injection ev with e1 e2 e3
    subst e1
    refine ⟨q, c, hok q (Kd.R_base h q rfl), rfl, hr.2.1, hl, cur, hq, fun i v hv => ?_⟩
    obtain ⟨_, _, hc⟩ := Kd.reads_of_C (d := (0 : Int)) hr.2.2
    obtain ⟨ad, e, hc⟩ := hc (by omega)
    obtain rfl := Option.some.inj e
    rw [List.getElem?_map] at hv
    by_cases hi : i < l.length
    · rw [List.getElem?_eq_getElem hi, Option.map_some] at hv
      obtain rfl := Option.some.inj hv
      have := hc i hi
      rw [add_plain, blk_cell hq] at this
      rw [this, List.getD_eq_getElem?_getD, List.getElem?_eq_getElem hi]
      rfl
    · rw [List.getElem?_eq_none (by omega)] at hv
      cases hv
/-- Values that are bytes, one by one. -/
def Byts (ok : Nat → Prop) (w : World) (vs : List Value) (ls : List (List Int)) : Prop := vs.length = ls.length ∧ ∀ (i : Nat) (v : Value) (l : List Int), vs[i]? = some v → ls[i]? = some l → Byt ok w v l
theorem Byts.same {w w' : World} {vs : List Value} {ls : List (List Int)} (h : Byts ok w vs ls) (hb : ∀ (q : Nat) (cs : Array Value), w.heap[q]? = some (.cells cs 5 (0, 0)) → w'.heap[q]? = w.heap[q]?) : Byts ok w' vs ls := ⟨h.1, fun i v l e1 e2 => (h.2 i v l e1 e2).same hb⟩
theorem Byts.sameO {w w' : World} {vs : List Value} {ls : List (List Int)} (h : Byts ok w vs ls) (hb : ∀ (q : Nat) (cs : Array Value), ok q → w.heap[q]? = some (.cells cs 5 (0, 0)) → w'.heap[q]? = w.heap[q]?) : Byts ok w' vs ls := ⟨h.1, fun i v l e1 e2 => (h.2 i v l e1 e2).sameO hb⟩
theorem Byts.mono {ok' : Nat → Prop} {w : World} {vs : List Value} {ls : List (List Int)} (h : Byts ok w vs ls) (hk : ∀ k, k < w.heap.size → ok k → ok' k) : Byts ok' w vs ls := ⟨h.1, fun i v l e1 e2 => (h.2 i v l e1 e2).mono hk⟩
theorem Byts.set {w : World} {vs : List Value} {ls : List (List Int)} (h : Byts ok w vs ls) (i : Nat) {v : Value} {l : List Int} (hv : Byt ok w v l) : Byts ok w (vs.set i v) (ls.set i l) := by
  refine ⟨by rw [List.length_set, List.length_set, h.1], fun j u m hu hm => ?_⟩
  rw [List.getElem?_set] at hu hm
  split at hu
  · rename_i hij
    rw [if_pos hij] at hm
    split at hu
    · split at hm
      · obtain rfl := Option.some.inj hu
        obtain rfl := Option.some.inj hm
        exact hv
      · cases hm
    · cases hu
  · rename_i hij
    rw [if_neg hij] at hm
    exact h.2 j u m hu hm
theorem Byts.at {w : World} {vs : List Value} {ls : List (List Int)} (h : Byts ok w vs ls) {i : Nat} (hi : i < ls.length) : ∃ v, vs[i]? = some v ∧ Byt ok w v ls[i] := by
  have hi2 : i < vs.length := by rw [h.1]; exact hi
  exact ⟨vs[i], List.getElem?_eq_getElem hi2, h.2 i _ _ (List.getElem?_eq_getElem hi2) (List.getElem?_eq_getElem hi)⟩
/-- The blocks that a disk alone writes. -/
structure Own where
  g : Nat
  bn : Nat
  bf : Nat
  bd : Nat
  cn : Nat
  cf : Nat
  cd : Nat
def Own.has (o : Own) (k : Nat) : Prop := k = o.g ∨ k = o.bn ∨ k = o.bf ∨ k = o.bd
/-- Blocks, as they are, as they last, and which are dirty. -/
structure DS where
  now : List (List Int)
  firm : List (List Int)
  dirty : List Bool
structure Dk (ok : Nat → Prop) (T : TypeId) (w : World) (o : Own) (s : DS) : Prop where
  n0 : 0 < s.now.length
  n1 : s.now.length ≤ 256
  nf : s.firm.length = s.now.length
  nd : s.dirty.length = s.now.length
  str : w.heap[o.g]? = some (.cells #[.slice (some ⟨o.bn, 0, none⟩) s.now.length o.cn, .slice (some ⟨o.bf, 0, none⟩) s.now.length o.cf, .slice (some ⟨o.bd, 0, none⟩) s.now.length o.cd] T (0, 0)) ∧ s.now.length ≤ o.cn ∧ s.now.length ≤ o.cf ∧ s.now.length ≤ o.cd
  vn : ∃ vs, Row w o.bn 27 vs ∧ Byts ok w vs s.now
  vf : ∃ vs, Row w o.bf 27 vs ∧ Byts ok w vs s.firm
  vd : Row w o.bd 4 (s.dirty.map .bool)
  ne : o.bn ≠ o.bf
theorem Dk.same {T : TypeId} {w w' : World} {o : Own} {s : DS} (h : Dk ok T w o s) (ho : ∀ k, o.has k → w'.heap[k]? = w.heap[k]?) (hb : ∀ (q : Nat) (cs : Array Value), w.heap[q]? = some (.cells cs 5 (0, 0)) → w'.heap[q]? = w.heap[q]?) : Dk ok T w' o s := by
  obtain ⟨e, h1⟩ := h.str
  obtain ⟨vs, r1, b1⟩ := h.vn
  obtain ⟨vf, r2, b2⟩ := h.vf
  exact ⟨h.n0, h.n1, h.nf, h.nd, ⟨(ho _ (.inl rfl)).trans e, h1⟩, ⟨vs, r1.same (ho _ (.inr (.inl rfl))), b1.same hb⟩, ⟨vf, r2.same (ho _ (.inr (.inr (.inl rfl)))), b2.same hb⟩, h.vd.same (ho _ (.inr (.inr (.inr rfl)))), h.ne⟩
theorem Dk.sameO {T : TypeId} {w w' : World} {o : Own} {s : DS} (h : Dk ok T w o s) (ho : ∀ k, o.has k → w'.heap[k]? = w.heap[k]?) (hb : ∀ (q : Nat) (cs : Array Value), ok q → w.heap[q]? = some (.cells cs 5 (0, 0)) → w'.heap[q]? = w.heap[q]?) : Dk ok T w' o s := by
  obtain ⟨e, h1⟩ := h.str
  obtain ⟨vs, r1, b1⟩ := h.vn
  obtain ⟨vf, r2, b2⟩ := h.vf
  exact ⟨h.n0, h.n1, h.nf, h.nd, ⟨(ho _ (.inl rfl)).trans e, h1⟩, ⟨vs, r1.same (ho _ (.inr (.inl rfl))), b1.sameO hb⟩, ⟨vf, r2.same (ho _ (.inr (.inr (.inl rfl)))), b2.sameO hb⟩, h.vd.same (ho _ (.inr (.inr (.inr rfl)))), h.ne⟩
theorem Dk.mono {ok' : Nat → Prop} {T : TypeId} {w : World} {o : Own} {s : DS} (h : Dk ok T w o s) (hk : ∀ k, k < w.heap.size → ok k → ok' k) : Dk ok' T w o s := by
  obtain ⟨vs, r1, b1⟩ := h.vn
  obtain ⟨vf, r2, b2⟩ := h.vf
  exact ⟨h.n0, h.n1, h.nf, h.nd, h.str, ⟨vs, r1, b1.mono hk⟩, ⟨vf, r2, b2.mono hk⟩, h.vd, h.ne⟩
theorem Dk.lt {T : TypeId} {w : World} {o : Own} {s : DS} (h : Dk ok T w o s) : ∀ k, o.has k → k < w.heap.size := by
  obtain ⟨e, h1⟩ := h.str
  obtain ⟨vs, r1, b1⟩ := h.vn
  obtain ⟨vf, r2, b2⟩ := h.vf
  rintro k (rfl | rfl | rfl | rfl)
  · exact blk_lt e
  · exact r1.lt
  · exact r2.lt
  · exact h.vd.lt
theorem Dk.below {T : TypeId} {w w' : World} {o : Own} {s : DS} (h : Dk ok T w o s) (hb : Below w.heap.size w w') : Dk ok T w' o s := h.same (fun k hk => hb.block k (h.lt k hk)) fun q cs e => hb.block q (blk_lt e)
/-- No block of a disk's own holds bytes. -/
theorem Dk.own_ne {T : TypeId} {w : World} {o : Own} {s : DS} (h : Dk ok T w o s) (hT : T ≠ 5) {q : Nat} {cs : Array Value} (e : w.heap[q]? = some (.cells cs 5 (0, 0))) : ¬ o.has q := by
  obtain ⟨e1, h1⟩ := h.str
  obtain ⟨vs, ⟨_, r1, _⟩, b1⟩ := h.vn
  obtain ⟨vf, ⟨_, r2, _⟩, b2⟩ := h.vf
  obtain ⟨_, r3, _⟩ := h.vd
  rintro (rfl | rfl | rfl | rfl)
  · exact blk_ne e1 e hT rfl
  · exact blk_ne r1 e (by decide) rfl
  · exact blk_ne r2 e (by decide) rfl
  · exact blk_ne r3 e (by decide) rfl
/-- Another disk is written: this one stays. -/
theorem Dk.other {T T' : TypeId} {w w' : World} {o o' : Own} {s s' : DS} (h : Dk ok T w o s) (h' : Dk ok2 T' w o' s') (hT : T' ≠ 5) (hne : ∀ k, o.has k → ¬ o'.has k) (hk : Keeps o'.has w w') : Dk ok T w' o s :=
  h.same (fun k hk1 => hk.far k (h.lt k hk1) (hne k hk1)) fun q cs e => hk.far q (blk_lt e) (h'.own_ne hT e)
theorem Dk.c0 {T : TypeId} {w : World} {o : Own} {s : DS} (h : Dk ok T w o s) {n : Nat} (hn : s.now.length = n) : w.cell? ⟨o.g, 0, none⟩ = some (.slice (some ⟨o.bn, 0, none⟩) n o.cn) := by subst hn; exact (blk_cell h.str.1 0).trans rfl
theorem Dk.c1 {T : TypeId} {w : World} {o : Own} {s : DS} (h : Dk ok T w o s) {n : Nat} (hn : s.now.length = n) : w.cell? ⟨o.g, 1, none⟩ = some (.slice (some ⟨o.bf, 0, none⟩) n o.cf) := by subst hn; exact (blk_cell h.str.1 1).trans rfl
theorem Dk.c2 {T : TypeId} {w : World} {o : Own} {s : DS} (h : Dk ok T w o s) {n : Nat} (hn : s.now.length = n) : w.cell? ⟨o.g, 2, none⟩ = some (.slice (some ⟨o.bd, 0, none⟩) n o.cd) := by subst hn; exact (blk_cell h.str.1 2).trans rfl
theorem Dk.kn {T : TypeId} {w : World} {o : Own} {s : DS} (h : Dk ok T w o s) {i : Nat} (hi : i < s.now.length) : ∃ u, w.cell? ⟨o.bn, i, none⟩ = some u ∧ w.frozen? ⟨o.bn, i, none⟩ = false := by
  obtain ⟨vs, r, b⟩ := h.vn
  obtain ⟨u, hu, _⟩ := b.at hi
  exact ⟨u, r.cell hu, r.frozen i⟩
theorem Dk.kf {T : TypeId} {w : World} {o : Own} {s : DS} (h : Dk ok T w o s) {i : Nat} (hi : i < s.now.length) : ∃ u, w.cell? ⟨o.bf, i, none⟩ = some u ∧ w.frozen? ⟨o.bf, i, none⟩ = false := by
  obtain ⟨vs, r, b⟩ := h.vf
  obtain ⟨u, hu, _⟩ := b.at (by rw [h.nf]; exact hi)
  exact ⟨u, r.cell hu, r.frozen i⟩
theorem Dk.kd {T : TypeId} {w : World} {o : Own} {s : DS} (h : Dk ok T w o s) {i : Nat} (hi : i < s.now.length) : ∃ b, s.dirty[i]? = some b ∧ w.cell? ⟨o.bd, i, none⟩ = some (.bool b) ∧ w.frozen? ⟨o.bd, i, none⟩ = false := by
  have hi2 : i < s.dirty.length := by rw [h.nd]; exact hi
  exact ⟨s.dirty[i], List.getElem?_eq_getElem hi2, h.vd.cell (by rw [List.getElem?_map, List.getElem?_eq_getElem hi2]; rfl), h.vd.frozen i⟩
/-- A fault. -/
def FaultAt (w : World) (v : Value) (c : Int) : Prop := ∃ g cs, v = .iface 70 (.pointer (some ⟨g, 0, none⟩)) ∧ w.heap[g]? = some (.cells #[.int .i64 c, cs] 72 (0, 0))
theorem FaultAt.below {w w' : World} {v : Value} {c : Int} (h : FaultAt w v c) (hb : Below w.heap.size w w') : FaultAt w' v c := by
  obtain ⟨g, cs, e, h⟩ := h
  exact ⟨g, cs, e, blk_below h hb⟩
end
section
variable {ok ok2 : Nat → Prop}
set_option maxHeartbeats 8000000 in
set_option maxRecDepth 100000 in
theorem Dk_Len.calls (o : Own) (s : DS) (w : World) (h : Dk ok 52 w o s) :
    Calls Try.prog 28 #[.pointer (some ⟨o.g, 0, none⟩)] w fun e w' => e = .returned (.int .i64 (s.now.length : Int)) ∧ w' = w := by
  have f0 := h.c0 rfl
  have f1 := h.c1 rfl
  have f2 := h.c2 rfl
  go_enter Try.func28, Try.ntmps28
  go_wp2
  go_ret
  exact ⟨rfl, rfl⟩

set_option maxHeartbeats 8000000 in
set_option maxRecDepth 100000 in
theorem Dk_LenN.calls (w : World) :
    Calls Try.prog 28 #[.pointer none] w fun e w' => e = .returned (.int .i64 0) ∧ w' = w := by
  go_enter Try.func28, Try.ntmps28
  go_wp2
  go_ret
  exact ⟨rfl, rfl⟩

set_option maxHeartbeats 8000000 in
set_option maxRecDepth 100000 in
theorem Dk_askedN.calls (i : Int) (w : World) :
    Calls Try.prog 25 #[.pointer none, .int .i64 i] w fun e w' => ∃ v, e = .returned v ∧ FaultAt w' v 1 ∧ Below w.heap.size w w' := by
  go_enter Try.func25, Try.ntmps25
  go_wp2_with (go_in)
  go_ret
  exact ⟨_, rfl, ⟨_, _, rfl, blk_new _ _⟩, (Below.refl _ _).alloc (Nat.le_refl _) _⟩

set_option maxHeartbeats 8000000 in
set_option maxRecDepth 100000 in
theorem Dk_askedOk.calls (o : Own) (s : DS) (w : World) (h : Dk ok 52 w o s) (i : Nat) (hi : i < s.now.length) :
    Calls Try.prog 25 #[.pointer (some ⟨o.g, 0, none⟩), .int .i64 (i : Int)] w fun e w' => e = .returned .nilIface ∧ w' = w := by
  have f0 := h.c0 rfl
  have f1 := h.c1 rfl
  have f2 := h.c2 rfl
  have c1 : decide ((i : Int) < 0) = false := decide_eq_false (by omega)
  have c2 : decide ((i : Int) ≥ (s.now.length : Int)) = false := decide_eq_false (by omega)
  have c3 : decide ((s.now.length : Int) ≤ (i : Int)) = false := decide_eq_false (by omega)
  go_enter Try.func25, Try.ntmps25
  go_wp2_with (go_in)
  go_ret
  exact ⟨rfl, rfl⟩

set_option maxHeartbeats 8000000 in
set_option maxRecDepth 100000 in
theorem Dk_askedLo.calls (o : Own) (s : DS) (w : World) (h : Dk ok 52 w o s) (i : Int) (hi : i < 0) :
    Calls Try.prog 25 #[.pointer (some ⟨o.g, 0, none⟩), .int .i64 i] w fun e w' => ∃ v, e = .returned v ∧ FaultAt w' v 2 ∧ Below w.heap.size w w' := by
  have f0 := h.c0 rfl
  have f1 := h.c1 rfl
  have f2 := h.c2 rfl
  have c1 : decide (i < 0) = true := decide_eq_true (by omega)
  go_enter Try.func25, Try.ntmps25
  go_wp2_with (go_in)
  go_ret
  exact ⟨_, rfl, ⟨_, _, rfl, blk_new _ _⟩, (Below.refl _ _).alloc (Nat.le_refl _) _⟩

set_option maxHeartbeats 8000000 in
set_option maxRecDepth 100000 in
theorem Dk_askedHi.calls (o : Own) (s : DS) (w : World) (h : Dk ok 52 w o s) (i : Int) (h0 : 0 ≤ i) (hi : (s.now.length : Int) ≤ i) :
    Calls Try.prog 25 #[.pointer (some ⟨o.g, 0, none⟩), .int .i64 i] w fun e w' => ∃ v, e = .returned v ∧ FaultAt w' v 2 ∧ Below w.heap.size w w' := by
  have f0 := h.c0 rfl
  have f1 := h.c1 rfl
  have f2 := h.c2 rfl
  have c1 : decide (i < 0) = false := decide_eq_false (by omega)
  have c2 : decide (i ≥ (s.now.length : Int)) = true := decide_eq_true (by omega)
  have c3 : decide ((s.now.length : Int) ≤ i) = true := decide_eq_true (by omega)
  go_enter Try.func25, Try.ntmps25
  go_wp2_with (go_in)
  go_ret
  exact ⟨_, rfl, ⟨_, _, rfl, blk_new _ _⟩, (Below.refl _ _).alloc (Nat.le_refl _) _⟩

theorem Dk_askedBad.calls (o : Own) (s : DS) (w : World) (h : Dk ok 52 w o s) (i : Int) (hi : i < 0 ∨ (s.now.length : Int) ≤ i) : Calls Try.prog 25 #[.pointer (some ⟨o.g, 0, none⟩), .int .i64 i] w fun e w' => ∃ v, e = .returned v ∧ FaultAt w' v 2 ∧ Below w.heap.size w w' := by
  by_cases h0 : i < 0
  · exact Dk_askedLo.calls o s w h i h0
  · exact Dk_askedHi.calls o s w h i (by omega) (hi.resolve_left h0)

set_option maxHeartbeats 8000000 in
set_option maxRecDepth 100000 in
theorem Dk_Read.calls (o : Own) (s : DS) (w : World) (h : Dk ok 52 w o s) (i : Nat) (hi : i < s.now.length) (l : List Int) (hl : s.now[i]? = some l) (hf : slices_Clone_byte_byte.f l = some l) :
    Calls Try.prog 10 #[.pointer (some ⟨o.g, 0, none⟩), .int .i64 (i : Int)] w fun e w' => ∃ v, e = .returned (.tuple #[v, .nilIface]) ∧ Kd.R (Kd.int .u8) 5 w' w.heap.size (fun _ => True) v l ∧ Below w.heap.size w w' := by
  have f0 := h.c0 rfl
  have f1 := h.c1 rfl
  have f2 := h.c2 rfl
  obtain ⟨vs, hrow, hby⟩ := h.vn
  obtain ⟨v, hv, hb⟩ := hby.at (i := i) hi
  rw [List.getElem?_eq_getElem hi] at hl
  rw [Option.some.inj hl] at hb
  obtain ⟨q, c, rfl, hc, hC⟩ := hb.reads
  have f3 := hrow.cell hv
  have fa := add_plain o.bn i
  have p1 : (0 : Int) ≤ (i : Int) := by omega
  have p2 : (i : Int) < (s.now.length : Int) := by omega
  have HC := Aside0.mk hC
  have Hc := Aside0.mk hc
  have HF := Aside0.mk hf
  have HD := Aside0.mk h
  have HI := Aside0.mk hi
  clear hC hc hf hl hrow hby hb hv h hi
  go_enter Try.func10, Try.ntmps10
  go_wp2_with (first | (go_at_call 26; (with_reducible refine (slices_Clone_byte_byte.calls _ _ l l _ HC.out Hc.out HF.out).mono ?_); rintro e w1 ⟨v1, rfl, ho1, hb1⟩) | (go_at_call 25; refine (Dk_askedOk.calls o s _ HD.out i HI.out).mono ?_; rintro e w2 ⟨rfl, rfl⟩))
  go_ret2
  exact ⟨_, rfl, ho1, hb1⟩

set_option maxHeartbeats 8000000 in
set_option maxRecDepth 100000 in
theorem Dk_ReadBad.calls (o : Own) (s : DS) (w : World) (h : Dk ok 52 w o s) (i : Int) (hi : i < 0 ∨ (s.now.length : Int) ≤ i) :
    Calls Try.prog 10 #[.pointer (some ⟨o.g, 0, none⟩), .int .i64 i] w fun e w' => ∃ v, e = .returned (.tuple #[.slice none 0 0, v]) ∧ FaultAt w' v 2 ∧ Below w.heap.size w w' := by
  have HA := Aside0.mk (Dk_askedBad.calls o s w h i hi)
  clear h hi
  go_enter Try.func10, Try.ntmps10
  go_wp2_with (first | (go_at_call 25; refine HA.out.mono ?_; rintro e w2 ⟨v, rfl, hv, hb⟩; have HV := Aside0.mk hv; obtain ⟨g, cs, rfl, hv⟩ := hv))
  go_ret2
  exact ⟨_, rfl, HV.out, hb⟩

set_option maxHeartbeats 8000000 in
set_option maxRecDepth 100000 in
theorem Dk_ReadN.calls (i : Int) (w : World) :
    Calls Try.prog 10 #[.pointer none, .int .i64 i] w fun e w' => ∃ v, e = .returned (.tuple #[.slice none 0 0, v]) ∧ FaultAt w' v 1 ∧ Below w.heap.size w w' := by
  go_enter Try.func10, Try.ntmps10
  go_wp2_with (first | (go_at_call 25; refine (Dk_askedN.calls i _).mono ?_; rintro e w2 ⟨v, rfl, hv, hb⟩; have HV := Aside0.mk hv; obtain ⟨g, cs, rfl, hv⟩ := hv))
  go_ret2
  exact ⟨_, rfl, HV.out, hb⟩

end
section
variable {ok ok2 : Nat → Prop}
theorem Dk.setN {T : TypeId} {w : World} {o : Own} {s : DS} (h : Dk ok T w o s) (hT : T ≠ 27) {v : Value} {l : List Int} (hv : Byt ok w v l) (i : Nat) : Dk ok T (w.setCell ⟨o.bn, i, none⟩ v) o { s with now := s.now.set i l } := by
  obtain ⟨e, h1⟩ := h.str
  obtain ⟨vs, r1, b1⟩ := h.vn
  obtain ⟨vf, r2, b2⟩ := h.vf
  have q8 : ∀ (q : Nat) (cs : Array Value), w.heap[q]? = some (.cells cs 5 (0, 0)) → (w.setCell ⟨o.bn, i, none⟩ v).heap[q]? = w.heap[q]? := fun q cs eq => Below.heap_setCell w _ v q (Ne.symm (blk_ne r1.choose_spec.1 eq (by decide)))
  have hl : (s.now.set i l).length = s.now.length := List.length_set
  refine ⟨by rw [hl]; exact h.n0, by rw [hl]; exact h.n1, by rw [hl]; exact h.nf, by rw [hl]; exact h.nd, ⟨?_, by rw [hl]; exact h1⟩, ⟨vs.set i v, r1.set i v, (b1.set i hv).same q8⟩, ⟨vf, r2.far (Ne.symm h.ne) v, b2.same q8⟩, h.vd.far (Ne.symm (r1.ne h.vd (by decide))) v, h.ne⟩
  rw [hl]
  exact blk_far e (p := ⟨o.bn, i, none⟩) (blk_ne e r1.choose_spec.1 hT) v
theorem Dk.setF {T : TypeId} {w : World} {o : Own} {s : DS} (h : Dk ok T w o s) (hT : T ≠ 27) {v : Value} {l : List Int} (hv : Byt ok w v l) (i : Nat) : Dk ok T (w.setCell ⟨o.bf, i, none⟩ v) o { s with firm := s.firm.set i l } := by
  obtain ⟨e, h1⟩ := h.str
  obtain ⟨vs, r1, b1⟩ := h.vn
  obtain ⟨vf, r2, b2⟩ := h.vf
  have q8 : ∀ (q : Nat) (cs : Array Value), w.heap[q]? = some (.cells cs 5 (0, 0)) → (w.setCell ⟨o.bf, i, none⟩ v).heap[q]? = w.heap[q]? := fun q cs eq => Below.heap_setCell w _ v q (Ne.symm (blk_ne r2.choose_spec.1 eq (by decide)))
  have hl : (s.firm.set i l).length = s.firm.length := List.length_set
  exact ⟨h.n0, h.n1, by rw [hl]; exact h.nf, h.nd, ⟨blk_far e (p := ⟨o.bf, i, none⟩) (blk_ne e r2.choose_spec.1 hT) v, h1⟩, ⟨vs, r1.far h.ne v, b1.same q8⟩, ⟨vf.set i v, r2.set i v, (b2.set i hv).same q8⟩, h.vd.far (Ne.symm (r2.ne h.vd (by decide))) v, h.ne⟩
theorem Dk.setD {T : TypeId} {w : World} {o : Own} {s : DS} (h : Dk ok T w o s) (hT : T ≠ 4) (b : Bool) (i : Nat) : Dk ok T (w.setCell ⟨o.bd, i, none⟩ (.bool b)) o { s with dirty := s.dirty.set i b } := by
  obtain ⟨e, h1⟩ := h.str
  obtain ⟨vs, r1, b1⟩ := h.vn
  obtain ⟨vf, r2, b2⟩ := h.vf
  obtain ⟨_, ed, _⟩ := h.vd
  have q8 : ∀ (q : Nat) (cs : Array Value), w.heap[q]? = some (.cells cs 5 (0, 0)) → (w.setCell ⟨o.bd, i, none⟩ (.bool b)).heap[q]? = w.heap[q]? := fun q cs eq => Below.heap_setCell w _ _ q (Ne.symm (blk_ne ed eq (by decide)))
  have hl : (s.dirty.set i b).length = s.dirty.length := List.length_set
  exact ⟨h.n0, h.n1, h.nf, by rw [hl]; exact h.nd, ⟨blk_far e (p := ⟨o.bd, i, none⟩) (blk_ne e ed hT) _, h1⟩, ⟨vs, r1.far (r1.ne h.vd (by decide)) _, b1.same q8⟩, ⟨vf, r2.far (r2.ne h.vd (by decide)) _, b2.same q8⟩, by
    have := h.vd.set i (.bool b)
    rw [List.map_set]
    exact this, h.ne⟩

set_option maxHeartbeats 8000000 in
set_option maxRecDepth 100000 in
theorem Dk_WriteN.calls (A : Option Addr) (n c : Nat) (i : Int) (w : World) :
    Calls Try.prog 11 #[.pointer none, .int .i64 i, .slice A n c] w fun e w' => ∃ v, e = .returned v ∧ FaultAt w' v 1 ∧ Below w.heap.size w w' := by
  go_enter Try.func11, Try.ntmps11
  go_wp2_with (first | (go_at_call 25; refine (Dk_askedN.calls i _).mono ?_; rintro e w2 ⟨v, rfl, hv, hb⟩; have HV := Aside0.mk hv; obtain ⟨g, cs, rfl, hv⟩ := hv))
  go_ret
  exact ⟨_, rfl, HV.out, hb⟩

set_option maxHeartbeats 8000000 in
set_option maxRecDepth 100000 in
theorem Dk_WriteBad.calls (o : Own) (s : DS) (w : World) (h : Dk ok 52 w o s) (A : Option Addr) (n c : Nat) (i : Int) (hi : i < 0 ∨ (s.now.length : Int) ≤ i) :
    Calls Try.prog 11 #[.pointer (some ⟨o.g, 0, none⟩), .int .i64 i, .slice A n c] w fun e w' => ∃ v, e = .returned v ∧ FaultAt w' v 2 ∧ Below w.heap.size w w' := by
  have HA := Aside0.mk (Dk_askedBad.calls o s w h i hi)
  clear h hi
  go_enter Try.func11, Try.ntmps11
  go_wp2_with (first | (go_at_call 25; refine HA.out.mono ?_; rintro e w2 ⟨v, rfl, hv, hb⟩; have HV := Aside0.mk hv; obtain ⟨g, cs, rfl, hv⟩ := hv))
  go_ret
  exact ⟨_, rfl, HV.out, hb⟩

set_option maxHeartbeats 8000000 in
set_option maxRecDepth 100000 in
theorem Dk_WriteSize.calls (o : Own) (s : DS) (w : World) (h : Dk ok 52 w o s) (A : Option Addr) (n c : Nat) (i : Nat) (hi : i < s.now.length) (hn : n ≠ 512) :
    Calls Try.prog 11 #[.pointer (some ⟨o.g, 0, none⟩), .int .i64 (i : Int), .slice A n c] w fun e w' => ∃ v, e = .returned v ∧ FaultAt w' v 3 ∧ Below w.heap.size w w' := by
  have HA := Aside0.mk (Dk_askedOk.calls o s w h i hi)
  have c1 : decide ((n : Int) = 512) = false := decide_eq_false (by omega)
  have c2 : ((n : Int) == 512) = false := beq_eq_false_iff_ne.mpr (by omega)
  have c3 : ((n : Int) != 512) = true := bne_iff_ne.mpr (by omega)
  clear h hi
  go_enter Try.func11, Try.ntmps11
  go_wp2_with (first | (go_at_call 25; refine HA.out.mono ?_; rintro e w2 ⟨rfl, rfl⟩) | go_in)
  go_ret
  exact ⟨_, rfl, ⟨_, _, rfl, blk_new _ _⟩, (Below.refl _ _).alloc (Nat.le_refl _) _⟩

set_option maxHeartbeats 8000000 in
set_option maxRecDepth 100000 in
theorem Dk_WriteOk.calls (o : Own) (s : DS) (w : World) (h : Dk ok 52 w o s) (A : Option Addr) (c : Nat) (l : List Int) (hC : Kd.C (Kd.int .u8) w A l.length l) (hc : l.length ≤ c) (hl : l.length = 512) (hf : slices_Clone_byte_byte.f l = some l) (i : Nat) (hi : i < s.now.length) (hok : ∀ k, w.heap.size ≤ k → ok k) :
    Calls Try.prog 11 #[.pointer (some ⟨o.g, 0, none⟩), .int .i64 (i : Int), .slice A l.length c] w fun e w' => e = .returned .nilIface ∧ Dk ok 52 w' o { s with now := s.now.set i l, dirty := s.dirty.set i true } ∧ Keeps o.has w w' := by
  have HA := Aside0.mk (Dk_askedOk.calls o s w h i hi)
  have HD := Aside0.mk h
  have HI := Aside0.mk hi
  have HL := Aside0.mk hl
  have c1 : decide ((l.length : Int) = 512) = true := decide_eq_true (by omega)
  have c2 : ((l.length : Int) == 512) = true := beq_iff_eq.mpr (by omega)
  have c3 : ((l.length : Int) != 512) = false := bne_eq_false_iff_eq.mpr (by omega)
  have f0 := h.c0 rfl
  have f1 := h.c1 rfl
  have f2 := h.c2 rfl
  have p1 : (0 : Int) ≤ (i : Int) := by omega
  have p2 : (i : Int) < (s.now.length : Int) := by omega
  have ab := add_plain o.bn i
  have ad := add_plain o.bd i
  have HC := Aside0.mk hC
  have Hc := Aside0.mk hc
  have HF := Aside0.mk hf
  have HOK := Aside0.mk hok
  clear h hi hl hC hc hf hok
  go_enter Try.func11, Try.ntmps11
  go_wp2_with (first | (go_at_call 25; refine HA.out.mono ?_; rintro e w2 ⟨rfl, rfl⟩))
  go_region_held3 (fun w' => w'.cell? ⟨o.g, 0, none⟩ = some (.slice (some ⟨o.bn, 0, none⟩) s.now.length o.cn) ∧ w'.cell? ⟨o.g, 2, none⟩ = some (.slice (some ⟨o.bd, 0, none⟩) s.now.length o.cd)) (first | exact S1 | exact S2.out | exact S3.out | go_keep) (first | (go_at_call 26; (with_reducible refine (slices_Clone_byte_byte.calls _ _ l l _ (Kd.C_drew HC.out) Hc.out HF.out).mono ?_); rintro e w1 ⟨v1, rfl, ho1, hb1⟩; have hb1 := Below.trans (Below.drew (Below.refl _ _)) hb1; have D1 := Aside0.mk (HD.out.below hb1); obtain ⟨B1, m1, rfl⟩ := Kd.R_slice ho1; have HO1 := Aside0.mk (Byt.of_R ho1 HL.out HOK.out); have HB1 := Aside0.mk hb1; have S1 := And.intro (D1.out.c0 rfl) (D1.out.c2 rfl); have D2 := Aside0.mk (D1.out.setN (by decide) HO1.out i); have S2 := Aside0.mk (And.intro (D2.out.c0 List.length_set) (D2.out.c2 List.length_set)); have D3 := Aside0.mk (D2.out.setD (by decide) true i); have S3 := Aside0.mk (And.intro (D3.out.c0 List.length_set) (D3.out.c2 List.length_set)); obtain ⟨u1, k1, z1⟩ := D1.out.kn HI.out; obtain ⟨u2, _, k2, z2⟩ := D2.out.kd (i := i) (by rw [List.length_set]; exact HI.out); clear ho1 hb1))
  go_wp2
  go_ret
  exact ⟨rfl, D3.out, ((Keeps.of_below HB1.out).trans (Keeps.set _ _ o.bn i _ (.inr (.inl rfl)))).trans (Keeps.set _ _ o.bd i _ (.inr (.inr (.inr rfl))))⟩

end
section
variable {ok ok2 : Nat → Prop}
/-- Which are dirty, among the first so many. -/
def dix (D : List Bool) : Nat → List Nat
  | 0 => []
  | n + 1 => if D[n]? = some true then dix D n ++ [n] else dix D n
theorem dix_lt (D : List Bool) : ∀ n, ∀ i ∈ dix D n, i < n
  | 0, i, h => by cases h
  | n + 1, i, h => by
    unfold dix at h
    split at h
    · rcases List.mem_append.mp h with h | h
      · have := dix_lt D n i h; omega
      · rw [List.mem_singleton.mp h]; omega
    · have := dix_lt D n i h; omega
theorem dix_len (D : List Bool) : ∀ n, (dix D n).length ≤ n
  | 0 => Nat.le_refl _
  | n + 1 => by
    have := dix_len D n
    unfold dix
    split
    · rw [List.length_append, List.length_singleton]; omega
    · omega
def ints (l : List Nat) : List Int := l.map fun (i : Nat) => (i : Int)
theorem info_int : (Try.prog.info? 3).map (fun i => (i.zero, i.size, i.bytes)) = some (some (.int .i64 0), 1, 8) := by kernel_rfl

set_option maxHeartbeats 8000000 in
set_option maxRecDepth 100000 in
theorem Dk_Dirty.calls (o : Own) (s : DS) (w : World) (h : Dk ok 52 w o s) :
    Calls Try.prog 18 #[.pointer (some ⟨o.g, 0, none⟩)] w fun e w' => ∃ v, e = .returned v ∧ Kd.R (Kd.int .i64) 3 w' w.heap.size (fun _ => True) v (ints (dix s.dirty s.now.length)) ∧ Below w.heap.size w w' := by
  have HD := Aside0.mk h
  have HN := Aside0.mk h.n1
  have h0 := h.c0 rfl
  clear h
  go_enter Try.func18, Try.ntmps18
  go_wp2_with (first | (go_at_call 28; refine (Dk_Len.calls o s _ HD.out).mono ?_; rintro e w2 ⟨rfl, hw⟩; replace hw := hw.symm; subst hw))
  go_loopg [3, 7] s.now.length (fun kq v3 v7 w' => ∃ (j : Nat), v7 = .int .i64 (j : Int) ∧ Aside0 (j + kq = s.now.length) ∧ Aside0 (Kd.R (Kd.int .i64) 3 w' w.heap.size (fun _ => True) v3 (ints (dix s.dirty j))) ∧ Aside0 (Below w.heap.size w w'))
  case atStart => exact ⟨0, (by first | rfl | (simp; done)), ⟨by omega⟩, ⟨Kd.R_nil _ _ _ _ _⟩, ⟨Below.refl _ _⟩⟩
  case round =>
    obtain ⟨j, rfl, HJ, HR, HB⟩ := hrel
    have hDr := HD.out.below HB.out
    have q0 := hDr.c0 rfl
    have q2 := hDr.c2 rfl
    by_cases c8 : j < s.now.length
    · have c8b : decide ((j : Int) < (s.now.length : Int)) = true := decide_eq_true (by omega)
      have p1 : (0 : Int) ≤ (j : Int) := by omega
      have p2 : (j : Int) < (s.now.length : Int) := by omega
      have ab := add_plain o.bd j
      obtain ⟨b, hb, k1', z1'⟩ := hDr.kd c8
      have HBB := Aside0.mk hb
      clear hb hDr
      cases gk with
      | zero => have := HJ.out; omega
      | succ k1 =>
        cases b with
        | true =>
          go_wp2_with (first | ((with_reducible refine gate_builtin (b := .append) (xs := #[.tmp 17, .tmp 19]) rfl ?_); at_builtin; refine Kd.R_append (Kd.int .i64) (w0 := w) w.heap.size rfl (.tmp 17) (.tmp 19) 23 3 (.int .i64 0) 8 rfl Try.underlying23 info_int rfl (by decide) (by omega) u3 (ints (dix s.dirty j)) (j : Int) [.int .i64 (j : Int)] (fun _ => True) (fun _ => False) rfl rfl ?aP (fun _ hk => hk.elim) ?aF ?aO ?aB ?aS ?aL ?_; (case aP => exact rfl); (case aB => exact HB.out); (case aF => exact (fun _ _ => trivial)); (case aO => exact HR.out); (case aS => exact HB.out.size); (case aL => unfold ints; rw [List.length_map]; have := dix_len s.dirty j; have := HJ.out; have := HN.out; omega); intro v1 w1 ho1 hb1 hg1 ha1; have HR1 := Aside0.mk ho1; have HB1 := Aside0.mk hb1; clear ho1 hb1 hg1 ha1))
          go_roundg k1
          case measure => omega
          case rel => exact ⟨j + 1, (by
              have hw : wrap64 ((j : Int) + 1) = ((j + 1 : Nat) : Int) := by have := HJ.out; have := HN.out; unfold wrap64; omega
              first | rfl | (rw [← hw]; rfl) | (simp [*]; done)), ⟨by have := HJ.out; omega⟩, ⟨by unfold dix; rw [if_pos HBB.out]; have := HR1.out; unfold ints at this ⊢; rw [List.map_append]; exact this⟩, HB1⟩
        | false =>
          go_wp2
          go_roundg k1
          case measure => omega
          case rel => exact ⟨j + 1, (by
              have hw : wrap64 ((j : Int) + 1) = ((j + 1 : Nat) : Int) := by have := HJ.out; have := HN.out; unfold wrap64; omega
              first | rfl | (rw [← hw]; rfl) | (simp [*]; done)), ⟨by have := HJ.out; omega⟩, ⟨by unfold dix; rw [if_neg (by rw [HBB.out]; decide)]; exact HR.out⟩, HB⟩
    · have c8b : decide ((j : Int) < (s.now.length : Int)) = false := decide_eq_false (by omega)
      have c8i : (s.now.length : Int) ≤ (j : Int) := by omega
      have c8d : decide (j < s.now.length) = false := decide_eq_false c8
      obtain rfl : j = s.now.length := by have := HJ.out; omega
      clear hDr
      go_wp2
      go_ret
      exact ⟨_, rfl, HR.out, HB.out⟩

end
section
variable {ok ok2 : Nat → Prop}
theorem Keeps.C {α : Type} {enc : α → Value} {h1 : ∀ x, (enc x).oneCell' = true} {w w' : World} {A : Option Addr} {n : Nat} {xs : List α} {S : Nat → Prop} (d : α) (hk : Keeps S w w') (h : (Kd.scalar enc h1).C w A n xs) (hA : ∀ ad, A = some ad → ¬ S ad.block) : (Kd.scalar enc h1).C w' A n xs := by
  obtain ⟨a1, a2, a3⟩ := Kd.reads_of_C (d := d) h
  refine Kd.C_of_reads (d := d) ⟨a1, a2, fun hn => ?_⟩
  obtain ⟨ad, e, hcl⟩ := a3 hn
  refine ⟨ad, e, fun j hj => ?_⟩
  have hbl : (ad.add j).block = ad.block := by unfold Addr.add; split <;> rfl
  have h2 := hcl j hj
  have hlt := World.block_lt_of_cell? w _ h2
  rw [hbl] at hlt
  rw [← h2]
  unfold World.cell?
  rw [hbl, hk.far _ hlt (hA ad e)]
theorem Keeps.Ce {w w' : World} {A : Option Addr} {xs : List Bool} {S : Nat → Prop} (hk : Keeps S w w') (h : Kd.C Kd.bool w A xs.length xs) (hA : ∀ ad, A = some ad → xs ≠ [] → ¬ S ad.block) : Kd.C Kd.bool w' A xs.length xs := by
  cases xs with
  | nil =>
    obtain ⟨a1, a2, a3⟩ := Kd.reads_of_C (d := false) h
    exact Kd.C_of_reads (d := false) ⟨a1, a2, fun hn => absurd hn (by decide)⟩
  | cons x xs => exact hk.C false h (fun ad e => hA ad e (List.cons_ne_nil _ _))
/-- Is the k-th kept? -/
def kept (keep : List Bool) (k : Nat) : Bool := decide (0 < keep.length) && keep.getD (k % keep.length) false
def DS.keep (s : DS) (i : Nat) : DS := { s with firm := s.firm.set i (s.now.getD i []) }
def DS.back (s : DS) (i : Nat) : DS := { s with now := s.now.set i (s.firm.getD i []), dirty := s.dirty.set i false }
def crashL (keep : List Bool) : List Nat → Nat → DS → Nat → DS × Nat
  | [], _, s, n => (s, n)
  | i :: r, k, s, n => if kept keep k = true then crashL keep r (k + 1) ((s.keep i).back i) (n + 1) else crashL keep r (k + 1) (s.back i) n
theorem DS.keep_now (s : DS) (i : Nat) : (s.keep i).now = s.now := rfl
theorem DS.back_len (s : DS) (i : Nat) : (s.back i).now.length = s.now.length := List.length_set
theorem Dk.keep {T : TypeId} {w : World} {o : Own} {s : DS} (h : Dk ok T w o s) (hT : T ≠ 27) {i : Nat} (hi : i < s.now.length) : ∃ q m c, w.cell? ⟨o.bn, i, none⟩ = some (.slice (some ⟨q, 0, none⟩) m c) ∧ Byt ok w (.slice (some ⟨q, 0, none⟩) m c) (s.now.getD i []) := by
  obtain ⟨vs, r, b⟩ := h.vn
  obtain ⟨u, hu, hb⟩ := b.at hi
  rw [List.getD_eq_getElem?_getD, List.getElem?_eq_getElem hi]
  obtain ⟨q, c, _, rfl, _⟩ := id hb
  exact ⟨_, _, _, r.cell hu, hb⟩
theorem Dk.back {T : TypeId} {w : World} {o : Own} {s : DS} (h : Dk ok T w o s) (hT : T ≠ 27) {i : Nat} (hi : i < s.now.length) : ∃ q m c, w.cell? ⟨o.bf, i, none⟩ = some (.slice (some ⟨q, 0, none⟩) m c) ∧ Byt ok w (.slice (some ⟨q, 0, none⟩) m c) (s.firm.getD i []) := by
  obtain ⟨vs, r, b⟩ := h.vf
  have hi2 : i < s.firm.length := by rw [h.nf]; exact hi
  obtain ⟨u, hu, hb⟩ := b.at hi2
  rw [List.getD_eq_getElem?_getD, List.getElem?_eq_getElem hi2]
  obtain ⟨q, c, _, rfl, _⟩ := id hb
  exact ⟨_, _, _, r.cell hu, hb⟩

theorem Dk.drew {T : TypeId} {w : World} {o : Own} {s : DS} (h : Dk ok T w o s) : Dk ok T w.drew o s := h.below (Below.drew (Below.refl _ _))
theorem R_ge {α : Type} {d : Kd α} {e base n c : Nat} {ok : Nat → Prop} {w : World} {A : Option Addr} {xs : List α} (h : d.R e w base ok (.slice A n c) xs) : ∀ ad, A = some ad → base ≤ ad.block := fun ad e => by subst e; exact Kd.R_base h _ rfl
theorem rd_ints (l : List Nat) (j : Nat) (h : j < l.length) : rd (ints l) (j : Int) = (l[j] : Int) := by
  unfold rd ints
  simp [List.getD_eq_getElem?_getD, h]

set_option maxHeartbeats 8000000 in
set_option maxRecDepth 100000 in
theorem Dk_Crash.calls (o : Own) (s : DS) (w : World) (h : Dk ok 52 w o s) (A1 : Option Addr) (c1 : Nat) (keep : List Bool) (hC : Kd.C Kd.bool w A1 keep.length keep) (hc : keep.length ≤ c1) (hA : ∀ ad, A1 = some ad → keep ≠ [] → ¬ o.has ad.block) :
    Calls Try.prog 19 #[.pointer (some ⟨o.g, 0, none⟩), .slice A1 keep.length c1] w fun e w' => e = .returned (.int .i64 ((crashL keep (dix s.dirty s.now.length) 0 s 0).2 : Int)) ∧ Dk ok 52 w' o (crashL keep (dix s.dirty s.now.length) 0 s 0).1 ∧ Keeps o.has w w' := by
  have HD := Aside0.mk h
  have HN := Aside0.mk h.n1
  have HC := Aside0.mk hC
  have Hc := Aside0.mk hc
  have HA := Aside0.mk hA
  have HLX := Aside0.mk (dix_lt s.dirty s.now.length)
  have HLL := Aside0.mk (dix_len s.dirty s.now.length)
  have hm : keep.length ≤ 9223372036854775807 := (Kd.reads_of_C (d := false) hC).2.1
  clear h hC hc hA
  go_enter Try.func19, Try.ntmps19
  go_wp2_with (first | (go_at_call 18; refine (Dk_Dirty.calls o s _ HD.out).mono ?_; rintro e w1 ⟨v1, rfl, ho1, hb1⟩; obtain ⟨A9, c9, rfl⟩ := Kd.R_slice ho1; have HO1 := Aside0.mk ho1; have HB1 := Aside0.mk hb1; have el : (ints (dix s.dirty s.now.length)).length = (dix s.dirty s.now.length).length := List.length_map _; rw [el]; have EL := Aside0.mk el; clear ho1 hb1 el))
  generalize hX : dix s.dirty s.now.length = X at *
  go_loopg [5, 11] X.length (fun kq v5 v11 w' => ∃ (j n : Nat) (s' : DS), v11 = .int .i64 (j : Int) ∧ v5 = .int .i64 (n : Int) ∧ Aside0 (j + kq = X.length) ∧ Aside0 (n ≤ j) ∧ Aside0 (crashL keep (X.drop j) j s' n = crashL keep X 0 s 0) ∧ Aside0 (Dk ok 52 w' o s') ∧ Aside0 (s'.now.length = s.now.length) ∧ Aside0 (Keeps o.has w w') ∧ Aside0 (Keeps o.has w1 w'))
  case atStart => exact ⟨0, 0, s, (by first | rfl | (simp; done)), (by first | rfl | (simp; done)), ⟨by omega⟩, ⟨by omega⟩, ⟨rfl⟩, ⟨HD.out.below HB1.out⟩, ⟨rfl⟩, ⟨Keeps.of_below HB1.out⟩, ⟨Keeps.refl _ _⟩⟩
  case round =>
    obtain ⟨j, n, s', rfl, rfl, HJ, HNJ, HR, HD', HL', HK, HK1⟩ := hrel
    by_cases c8 : j < X.length
    · have c8b : decide ((j : Int) < (X.length : Int)) = true := decide_eq_true (by omega)
      have p1 : (0 : Int) ≤ (j : Int) := by omega
      have p2 : (j : Int) < (X.length : Int) := by omega
      have hC9 : Kd.C (Kd.int .i64) wr A9 X.length (ints X) := by
        have h9 := (Kd.R_reads' HO1.out).2.2
        rw [EL.out] at h9
        exact HK1.out.C (0 : Int) h9 (fun ad e ho => by
          have h1 := R_ge HO1.out ad e
          have h2 := HD.out.lt _ ho
          omega)
      obtain ⟨ad9, e9, hx9⟩ := Kd.at_int hC9 (j : Int) p1 p2
      rw [rd_ints X j c8] at hx9
      have hdrop : X.drop j = X[j] :: X.drop (j + 1) := List.drop_eq_getElem_cons c8
      have hil := HLX.out X[j] (List.getElem_mem c8)
      have hR := HR.out
      rw [hdrop] at hR
      clear hdrop hC9 HR
      subst e9
      simp only [Int.toNat_natCast] at hx9
      generalize X[j] = i at *
      have HI := Aside0.mk hil
      have HRR := Aside0.mk hR
      have hCk := HK.out.Ce HC.out HA.out
      have pi1 : (0 : Int) ≤ (i : Int) := by omega
      have pi2 : (i : Int) < (s.now.length : Int) := by omega
      have an := add_plain o.bn i
      have af := add_plain o.bf i
      have adp := add_plain o.bd i
      have HL2 := HL'
      clear hR
      cases gk with
      | zero => have := HJ.out; omega
      | succ k1 =>
        by_cases g0 : 0 < keep.length
        · have g1 : decide ((keep.length : Int) > 0) = true := decide_eq_true (by omega)
          have g2 : decide ((0 : Int) < (keep.length : Int)) = true := decide_eq_true (by omega)
          have g3 : decide (0 < keep.length) = true := decide_eq_true g0
          have gm : j % keep.length < keep.length := Nat.mod_lt _ g0
          have p3 : (0 : Int) ≤ (j : Int) % (keep.length : Int) := Int.emod_nonneg _ (by omega)
          have p4 : (j : Int) % (keep.length : Int) < (keep.length : Int) := Int.emod_lt_of_pos _ (by omega)
          obtain ⟨adk, ek, hxk⟩ := Kd.at_bool hCk ((j : Int) % (keep.length : Int)) p3 p4
          have e5 : ((j : Int) % (keep.length : Int)).toNat = j % keep.length := by rw [← Int.natCast_emod, Int.toNat_natCast]
          rw [e5] at hxk
          have e6 : rdOf false keep ((j : Int) % (keep.length : Int)) = keep.getD (j % keep.length) false := by unfold rdOf; rw [e5]
          have hkn : kept keep j = keep.getD (j % keep.length) false := by unfold kept; rw [g3]; rfl
          rw [e6, ← hkn] at hxk
          subst ek
          clear e6 hkn hCk
          cases hkv : kept keep j with
          | true =>
            rw [hkv] at hxk
            have HKN := Aside0.mk hkv
            clear hkv
            obtain ⟨qk, mk, ck, kk1, bk1⟩ := HD'.out.keep (by decide) (i := i) (by have := HI.out; have := HL2.out; omega)
            obtain ⟨uq, kq1, zq1⟩ := HD'.out.kf (i := i) (by have := HI.out; have := HL2.out; omega)
            have c0 := HD'.out.c0 HL2.out
            have c1 := HD'.out.c1 HL2.out
            have DA0 := HD'.out.setF (by decide) bk1 i
            have hne1 : o.bn ≠ o.bf := HD'.out.ne
            have kf2 : (wr.setCell ⟨o.bf, i, none⟩ (.slice (some ⟨qk, 0, none⟩) mk ck)).cell? ⟨o.bn, i, none⟩ = some (.slice (some ⟨qk, 0, none⟩) mk ck) := (World.cell?_setCell_other _ _ _ _ (fun e => hne1 (congrArg Addr.block e).symm)).trans kk1
            have S2 := Aside0.mk (And.intro (DA0.c0 HL2.out) (And.intro (DA0.c1 HL2.out) kf2))
            have DA := Aside0.mk (show Dk ok 52 (wr.setCell ⟨o.bf, i, none⟩ (.slice (some ⟨qk, 0, none⟩) mk ck)).drew o (s'.keep i) from DA0.drew)
            have KA := Aside0.mk (HK.out.trans (Keeps.set _ _ o.bf i (.slice (some ⟨qk, 0, none⟩) mk ck) (.inr (.inr (.inl rfl))))).drew
            have KA1 := Aside0.mk (HK1.out.trans (Keeps.set _ _ o.bf i (.slice (some ⟨qk, 0, none⟩) mk ck) (.inr (.inr (.inl rfl))))).drew
            clear bk1 DA0 hne1
            go_wp2
            go_region_held3 (fun w' => w'.cell? ⟨o.g, 0, none⟩ = some (.slice (some ⟨o.bn, 0, none⟩) s.now.length o.cn) ∧ w'.cell? ⟨o.g, 1, none⟩ = some (.slice (some ⟨o.bf, 0, none⟩) s.now.length o.cf) ∧ w'.cell? ⟨o.bn, i, none⟩ = some (.slice (some ⟨qk, 0, none⟩) mk ck)) (first | exact S2.out | go_keep) (fail)
            clear kk1 kq1 zq1 c0 c1 kf2 S2
            generalize hw2 : (wr.setCell ⟨o.bf, i, none⟩ (.slice (some ⟨qk, 0, none⟩) mk ck)).drew = w2 at *
            clear hw2
            have HL2 : Aside0 ((s'.keep i).now.length = s.now.length) := ⟨HL'.out⟩
            go_wp2
            obtain ⟨qf, mf, cf, kf1, bf1⟩ := DA.out.back (by decide) (i := i) (by have := HI.out; have := HL2.out; omega)
            obtain ⟨un, kn1, zn1⟩ := DA.out.kn (i := i) (by have := HI.out; have := HL2.out; omega)
            have HBF := Aside0.mk bf1
            have c0 := DA.out.c0 HL2.out
            have c1 := DA.out.c1 HL2.out
            have c2 := DA.out.c2 HL2.out
            have D3 := Aside0.mk (DA.out.setN (by decide) HBF.out i)
            have D4 := Aside0.mk (D3.out.setD (by decide) false i)
            obtain ⟨ud, _, kd1, zd1⟩ := D3.out.kd (i := i) (by rw [List.length_set]; have := HI.out; have := HL2.out; omega)
            have hne1 : o.bf ≠ o.bn := Ne.symm DA.out.ne
            have hne2 : o.bf ≠ o.bd := (DA.out.vf.choose_spec.1).ne DA.out.vd (by decide)
            have kf2 : (w2.setCell ⟨o.bn, i, none⟩ (.slice (some ⟨qf, 0, none⟩) mf cf)).cell? ⟨o.bf, i, none⟩ = some (.slice (some ⟨qf, 0, none⟩) mf cf) := (World.cell?_setCell_other _ _ _ _ (fun e => hne1 (congrArg Addr.block e).symm)).trans kf1
            have kf3 : ((w2.setCell ⟨o.bn, i, none⟩ (.slice (some ⟨qf, 0, none⟩) mf cf)).setCell ⟨o.bd, i, none⟩ (.bool false)).cell? ⟨o.bf, i, none⟩ = some (.slice (some ⟨qf, 0, none⟩) mf cf) := (World.cell?_setCell_other _ _ _ _ (fun e => hne2 (congrArg Addr.block e).symm)).trans kf2
            have S2 := Aside0.mk (And.intro (D3.out.c0 (List.length_set.trans HL2.out)) (And.intro (D3.out.c1 (List.length_set.trans HL2.out)) (And.intro (D3.out.c2 (List.length_set.trans HL2.out)) kf2)))
            have S3 := Aside0.mk (And.intro (D4.out.c0 (List.length_set.trans HL2.out)) (And.intro (D4.out.c1 (List.length_set.trans HL2.out)) (And.intro (D4.out.c2 (List.length_set.trans HL2.out)) kf3)))
            clear kf3 bf1 hne1 hne2
            go_region_held3 (fun w' => w'.cell? ⟨o.g, 0, none⟩ = some (.slice (some ⟨o.bn, 0, none⟩) s.now.length o.cn) ∧ w'.cell? ⟨o.g, 1, none⟩ = some (.slice (some ⟨o.bf, 0, none⟩) s.now.length o.cf) ∧ w'.cell? ⟨o.g, 2, none⟩ = some (.slice (some ⟨o.bd, 0, none⟩) s.now.length o.cd) ∧ w'.cell? ⟨o.bf, i, none⟩ = some (.slice (some ⟨qf, 0, none⟩) mf cf)) (first | exact S2.out | exact S3.out | go_keep) (fail)
            go_wp2
            go_roundg k1
            case measure => omega
            case rel => exact ⟨j + 1, n + 1, (s'.keep i).back i, (by
                have hw : wrap64 ((j : Int) + 1) = ((j + 1 : Nat) : Int) := by have := HJ.out; have := HLL.out; have := HN.out; unfold wrap64; omega
                first | rfl | (rw [← hw]; rfl) | (simp [*]; done)), (by
                have hw : wrap64 ((n : Int) + 1) = ((n + 1 : Nat) : Int) := by have := HNJ.out; have := HJ.out; have := HLL.out; have := HN.out; unfold wrap64; omega
                first | rfl | (rw [← hw]; rfl) | (simp [*]; done)), ⟨by have := HJ.out; omega⟩, ⟨by have := HNJ.out; omega⟩, ⟨by have := HRR.out; rw [crashL, if_pos HKN.out] at this; exact this⟩, ⟨D4.out.drew⟩, ⟨(DS.back_len _ i).trans HL2.out⟩, ⟨((KA.out.trans (Keeps.set _ _ o.bn i _ (.inr (.inl rfl)))).trans (Keeps.set _ _ o.bd i _ (.inr (.inr (.inr rfl))))).drew⟩, ⟨((KA1.out.trans (Keeps.set _ _ o.bn i _ (.inr (.inl rfl)))).trans (Keeps.set _ _ o.bd i _ (.inr (.inr (.inr rfl))))).drew⟩⟩
          | false =>
            rw [hkv] at hxk
            have HKN := Aside0.mk hkv
            clear hkv
            go_wp2
            obtain ⟨qf, mf, cf, kf1, bf1⟩ := HD'.out.back (by decide) (i := i) (by have := HI.out; have := HL2.out; omega)
            obtain ⟨un, kn1, zn1⟩ := HD'.out.kn (i := i) (by have := HI.out; have := HL2.out; omega)
            have HBF := Aside0.mk bf1
            have c0 := HD'.out.c0 HL2.out
            have c1 := HD'.out.c1 HL2.out
            have c2 := HD'.out.c2 HL2.out
            have D3 := Aside0.mk (HD'.out.setN (by decide) HBF.out i)
            have D4 := Aside0.mk (D3.out.setD (by decide) false i)
            obtain ⟨ud, _, kd1, zd1⟩ := D3.out.kd (i := i) (by rw [List.length_set]; have := HI.out; have := HL2.out; omega)
            have hne1 : o.bf ≠ o.bn := Ne.symm HD'.out.ne
            have hne2 : o.bf ≠ o.bd := (HD'.out.vf.choose_spec.1).ne HD'.out.vd (by decide)
            have kf2 : (wr.setCell ⟨o.bn, i, none⟩ (.slice (some ⟨qf, 0, none⟩) mf cf)).cell? ⟨o.bf, i, none⟩ = some (.slice (some ⟨qf, 0, none⟩) mf cf) := (World.cell?_setCell_other _ _ _ _ (fun e => hne1 (congrArg Addr.block e).symm)).trans kf1
            have kf3 : ((wr.setCell ⟨o.bn, i, none⟩ (.slice (some ⟨qf, 0, none⟩) mf cf)).setCell ⟨o.bd, i, none⟩ (.bool false)).cell? ⟨o.bf, i, none⟩ = some (.slice (some ⟨qf, 0, none⟩) mf cf) := (World.cell?_setCell_other _ _ _ _ (fun e => hne2 (congrArg Addr.block e).symm)).trans kf2
            have S2 := Aside0.mk (And.intro (D3.out.c0 (List.length_set.trans HL2.out)) (And.intro (D3.out.c1 (List.length_set.trans HL2.out)) (And.intro (D3.out.c2 (List.length_set.trans HL2.out)) kf2)))
            have S3 := Aside0.mk (And.intro (D4.out.c0 (List.length_set.trans HL2.out)) (And.intro (D4.out.c1 (List.length_set.trans HL2.out)) (And.intro (D4.out.c2 (List.length_set.trans HL2.out)) kf3)))
            clear kf3 bf1 hne1 hne2
            go_region_held3 (fun w' => w'.cell? ⟨o.g, 0, none⟩ = some (.slice (some ⟨o.bn, 0, none⟩) s.now.length o.cn) ∧ w'.cell? ⟨o.g, 1, none⟩ = some (.slice (some ⟨o.bf, 0, none⟩) s.now.length o.cf) ∧ w'.cell? ⟨o.g, 2, none⟩ = some (.slice (some ⟨o.bd, 0, none⟩) s.now.length o.cd) ∧ w'.cell? ⟨o.bf, i, none⟩ = some (.slice (some ⟨qf, 0, none⟩) mf cf)) (first | exact S2.out | exact S3.out | go_keep) (fail)
            go_wp2
            go_roundg k1
            case measure => omega
            case rel => exact ⟨j + 1, n, (s').back i, (by
                have hw : wrap64 ((j : Int) + 1) = ((j + 1 : Nat) : Int) := by have := HJ.out; have := HLL.out; have := HN.out; unfold wrap64; omega
                first | rfl | (rw [← hw]; rfl) | (simp [*]; done)), (by
                have hw : wrap64 ((n : Int) + 1) = ((n + 1 : Nat) : Int) := by have := HNJ.out; have := HJ.out; have := HLL.out; have := HN.out; unfold wrap64; omega
                first | rfl | (rw [← hw]; rfl) | (simp [*]; done)), ⟨by have := HJ.out; omega⟩, ⟨by have := HNJ.out; omega⟩, ⟨by have := HRR.out; rw [crashL, if_neg (show ¬ (kept keep j = true) from by rw [HKN.out]; decide)] at this; exact this⟩, ⟨D4.out.drew⟩, ⟨(DS.back_len _ i).trans HL2.out⟩, ⟨((HK.out.trans (Keeps.set _ _ o.bn i _ (.inr (.inl rfl)))).trans (Keeps.set _ _ o.bd i _ (.inr (.inr (.inr rfl))))).drew⟩, ⟨((HK1.out.trans (Keeps.set _ _ o.bn i _ (.inr (.inl rfl)))).trans (Keeps.set _ _ o.bd i _ (.inr (.inr (.inr rfl))))).drew⟩⟩
        · have g1 : decide ((keep.length : Int) > 0) = false := decide_eq_false (by omega)
          have g2 : decide ((0 : Int) < (keep.length : Int)) = false := decide_eq_false (by omega)
          have g3 : decide (0 < keep.length) = false := decide_eq_false g0
          have g4 : (keep.length : Int) ≤ 0 := by omega
          have hkn : kept keep j = false := by unfold kept; rw [g3]; rfl
          have HKN := Aside0.mk hkn
          clear hkn hCk
          go_wp2
          obtain ⟨qf, mf, cf, kf1, bf1⟩ := HD'.out.back (by decide) (i := i) (by have := HI.out; have := HL2.out; omega)
          obtain ⟨un, kn1, zn1⟩ := HD'.out.kn (i := i) (by have := HI.out; have := HL2.out; omega)
          have HBF := Aside0.mk bf1
          have c0 := HD'.out.c0 HL2.out
          have c1 := HD'.out.c1 HL2.out
          have c2 := HD'.out.c2 HL2.out
          have D3 := Aside0.mk (HD'.out.setN (by decide) HBF.out i)
          have D4 := Aside0.mk (D3.out.setD (by decide) false i)
          obtain ⟨ud, _, kd1, zd1⟩ := D3.out.kd (i := i) (by rw [List.length_set]; have := HI.out; have := HL2.out; omega)
          have hne1 : o.bf ≠ o.bn := Ne.symm HD'.out.ne
          have hne2 : o.bf ≠ o.bd := (HD'.out.vf.choose_spec.1).ne HD'.out.vd (by decide)
          have kf2 : (wr.setCell ⟨o.bn, i, none⟩ (.slice (some ⟨qf, 0, none⟩) mf cf)).cell? ⟨o.bf, i, none⟩ = some (.slice (some ⟨qf, 0, none⟩) mf cf) := (World.cell?_setCell_other _ _ _ _ (fun e => hne1 (congrArg Addr.block e).symm)).trans kf1
          have kf3 : ((wr.setCell ⟨o.bn, i, none⟩ (.slice (some ⟨qf, 0, none⟩) mf cf)).setCell ⟨o.bd, i, none⟩ (.bool false)).cell? ⟨o.bf, i, none⟩ = some (.slice (some ⟨qf, 0, none⟩) mf cf) := (World.cell?_setCell_other _ _ _ _ (fun e => hne2 (congrArg Addr.block e).symm)).trans kf2
          have S2 := Aside0.mk (And.intro (D3.out.c0 (List.length_set.trans HL2.out)) (And.intro (D3.out.c1 (List.length_set.trans HL2.out)) (And.intro (D3.out.c2 (List.length_set.trans HL2.out)) kf2)))
          have S3 := Aside0.mk (And.intro (D4.out.c0 (List.length_set.trans HL2.out)) (And.intro (D4.out.c1 (List.length_set.trans HL2.out)) (And.intro (D4.out.c2 (List.length_set.trans HL2.out)) kf3)))
          clear kf3 bf1 hne1 hne2
          go_region_held3 (fun w' => w'.cell? ⟨o.g, 0, none⟩ = some (.slice (some ⟨o.bn, 0, none⟩) s.now.length o.cn) ∧ w'.cell? ⟨o.g, 1, none⟩ = some (.slice (some ⟨o.bf, 0, none⟩) s.now.length o.cf) ∧ w'.cell? ⟨o.g, 2, none⟩ = some (.slice (some ⟨o.bd, 0, none⟩) s.now.length o.cd) ∧ w'.cell? ⟨o.bf, i, none⟩ = some (.slice (some ⟨qf, 0, none⟩) mf cf)) (first | exact S2.out | exact S3.out | go_keep) (fail)
          go_wp2
          go_roundg k1
          case measure => omega
          case rel => exact ⟨j + 1, n, (s').back i, (by
              have hw : wrap64 ((j : Int) + 1) = ((j + 1 : Nat) : Int) := by have := HJ.out; have := HLL.out; have := HN.out; unfold wrap64; omega
              first | rfl | (rw [← hw]; rfl) | (simp [*]; done)), (by
              have hw : wrap64 ((n : Int) + 1) = ((n + 1 : Nat) : Int) := by have := HNJ.out; have := HJ.out; have := HLL.out; have := HN.out; unfold wrap64; omega
              first | rfl | (rw [← hw]; rfl) | (simp [*]; done)), ⟨by have := HJ.out; omega⟩, ⟨by have := HNJ.out; omega⟩, ⟨by have := HRR.out; rw [crashL, if_neg (show ¬ (kept keep j = true) from by rw [HKN.out]; decide)] at this; exact this⟩, ⟨D4.out.drew⟩, ⟨(DS.back_len _ i).trans HL2.out⟩, ⟨((HK.out.trans (Keeps.set _ _ o.bn i _ (.inr (.inl rfl)))).trans (Keeps.set _ _ o.bd i _ (.inr (.inr (.inr rfl))))).drew⟩, ⟨((HK1.out.trans (Keeps.set _ _ o.bn i _ (.inr (.inl rfl)))).trans (Keeps.set _ _ o.bd i _ (.inr (.inr (.inr rfl))))).drew⟩⟩
    · have c8b : decide ((j : Int) < (X.length : Int)) = false := decide_eq_false (by omega)
      have c8i : (X.length : Int) ≤ (j : Int) := by omega
      have c8d : decide (j < X.length) = false := decide_eq_false c8
      have hR := HR.out
      rw [List.drop_eq_nil_of_le (by omega)] at hR
      have HRR := Aside0.mk hR
      clear hR
      go_wp2
      go_ret
      rw [hX, ← HRR.out]
      exact ⟨rfl, HD'.out, HK.out⟩

end
section
variable {ok ok2 : Nat → Prop}
theorem Row.of_own {w : World} {base n : Nat} {e : TypeId} {v : Value} {xs : List Value} (h : w.ownsRow base e 1 v n xs) (hn : 0 < n) : ∃ g cap, v = .slice (some ⟨g, 0, none⟩) n cap ∧ n ≤ cap ∧ base ≤ g ∧ g < w.heap.size ∧ Row w g e xs := by
  obtain ⟨hl, hv⟩ := h
  rcases hv with ⟨_, h0⟩ | ⟨g, cap, cur, ev, hb, hg, h1, h2, h3, h4⟩
  · omega
  · refine ⟨g, cap, ev, h1, hb, blk_lt hg, cur, hg, fun i u hu => ?_⟩
    rw [← h4, List.getElem?_take] at hu
    split at hu
    · simpa using hu
    · cases hu
theorem info_bytes : (Try.prog.info? 27).map (fun i => (i.zero, i.size, i.bytes)) = some (some (.slice none 0 0), 1, 24) := by kernel_rfl
theorem info_bool : (Try.prog.info? 4).map (fun i => (i.zero, i.size, i.bytes)) = some (some (.bool false), 1, 1) := by kernel_rfl

end
section
variable {ok ok2 : Nat → Prop}
theorem Byts.one {w : World} {vs : List Value} {ls : List (List Int)} (h : Byts ok w vs ls) : ∀ v ∈ vs, v.oneCell' = true := by
  intro v hv
  obtain ⟨i, hi, rfl⟩ := List.getElem_of_mem hv
  have hi2 : i < ls.length := by rw [← h.1]; exact hi
  obtain ⟨q, c, _, e, _⟩ := h.2 i _ _ (List.getElem?_eq_getElem hi) (List.getElem?_eq_getElem hi2)
  rw [e]
  rfl

set_option maxHeartbeats 8000000 in
set_option maxRecDepth 100000 in
theorem Dk_DirtyN.calls (w : World) :
    Calls Try.prog 18 #[.pointer none] w fun e w' => e = .returned (.slice none 0 0) ∧ w' = w := by
  go_enter Try.func18, Try.ntmps18
  go_wp2_with (first | (go_at_call 28; refine (Dk_LenN.calls _).mono ?_; rintro e w2 ⟨rfl, hw⟩; replace hw := hw.symm; subst hw))
  go_loopg [3, 7] 0 (fun kq v3 v7 w' => v3 = .slice none 0 0 ∧ v7 = .int .i64 0 ∧ w' = w)
  case atStart => exact ⟨rfl, rfl, rfl⟩
  case round =>
    obtain ⟨rfl, rfl, rfl⟩ := hrel
    go_wp2
    go_ret
    exact ⟨rfl, rfl⟩

set_option maxHeartbeats 8000000 in
set_option maxRecDepth 100000 in
theorem Dk_CrashN.calls (A : Option Addr) (n c : Nat) (w : World) :
    Calls Try.prog 19 #[.pointer none, .slice A n c] w fun e w' => e = .returned (.int .i64 0) ∧ w' = w := by
  go_enter Try.func19, Try.ntmps19
  go_wp2_with (first | (go_at_call 18; refine (Dk_DirtyN.calls _).mono ?_; rintro e w2 ⟨rfl, hw⟩; replace hw := hw.symm; subst hw))
  go_loopg [5, 11] 0 (fun kq v5 v11 w' => v5 = .int .i64 0 ∧ v11 = .int .i64 0 ∧ w' = w)
  case atStart => exact ⟨rfl, rfl, rfl⟩
  case round =>
    obtain ⟨rfl, rfl, rfl⟩ := hrel
    go_wp2
    go_ret
    exact ⟨rfl, rfl⟩

set_option maxHeartbeats 8000000 in
set_option maxRecDepth 100000 in
theorem Dk_FlushN.calls (w : World) :
    Calls Try.prog 21 #[.pointer none] w fun e w' => e = .returned (.tuple #[]) ∧ Below w.heap.size w w' := by
  go_enter Try.func21, Try.ntmps21
  go_wp2_with (first | (go_at_call 19; refine (Dk_CrashN.calls _ _ _ _).mono ?_; rintro e w2 ⟨rfl, rfl⟩))
  go_end0
  exact ⟨rfl, (Below.refl _ _).alloc (Nat.le_refl _) _⟩

set_option maxHeartbeats 8000000 in
set_option maxRecDepth 100000 in
theorem Dk_Flush.calls (o : Own) (s : DS) (w : World) (h : Dk ok 52 w o s) :
    Calls Try.prog 21 #[.pointer (some ⟨o.g, 0, none⟩)] w fun e w' => e = .returned (.tuple #[]) ∧ Dk ok 52 w' o (crashL [true] (dix s.dirty s.now.length) 0 s 0).1 ∧ Keeps o.has w w' := by
  have hb : Below w.heap.size w (w.alloc (.cells #[.bool true] 4 (0, 0))) := (Below.refl _ _).alloc (Nat.le_refl _) _
  have hk : Kd.C Kd.bool (w.alloc (.cells #[.bool true] 4 (0, 0))) (some ⟨w.heap.size, 0, none⟩) ([true] : List Bool).length [true] := Kd.C_of_reads (d := false) ⟨rfl, by decide, fun _ => ⟨_, rfl, fun j hj => by
    have : j = 0 := by have : ([true] : List Bool).length = 1 := rfl; omega
    subst this
    exact (blk_cell (blk_new _ _) 0).trans rfl⟩⟩
  have HA := Aside0.mk (Dk_Crash.calls o s _ (h.below hb) (some ⟨w.heap.size, 0, none⟩) 1 [true] hk (by decide) (fun ad e _ ho => by
    obtain rfl := Option.some.inj e
    have := h.lt _ ho
    exact absurd this (Nat.lt_irrefl _)))
  have HB := Aside0.mk hb
  clear h hk hb
  go_enter Try.func21, Try.ntmps21
  go_wp2_with (first | (go_at_call 19; refine HA.out.mono ?_; rintro e w2 ⟨rfl, hd, hk⟩; have HD2 := Aside0.mk hd; have HK2 := Aside0.mk hk; clear hd hk))
  go_end0
  exact ⟨rfl, HD2.out, (Keeps.of_below HB.out).trans HK2.out⟩

end
section
variable {ok ok2 : Nat → Prop}
structure DkP (T : TypeId) (w0 w : World) (g bd n j : Nat) (vN vF : Value) : Prop where
  below : Below w0.heap.size w0 w
  hg : w.heap[g]? = some (.cells #[vN, vF, .slice (some ⟨bd, 0, none⟩) n n] T (0, 0))
  rows : ∃ vs, vs.length = j ∧ w.ownsRow w0.heap.size 27 1 vN j vs ∧ w.ownsRow w0.heap.size 27 1 vF j vs ∧ Byts (fun _ => True) w vs (List.replicate j (List.replicate 512 0))
  ne : vN.ownBlock = none ∨ vN.ownBlock ≠ vF.ownBlock
  hd : Row w bd 4 (List.replicate n (.bool false))
theorem DkP.c0 {T : TypeId} {w0 w : World} {g bd n j : Nat} {vN vF : Value} (h : DkP T w0 w g bd n j vN vF) : w.cell? ⟨g, 0, none⟩ = some vN := (blk_cell h.hg 0).trans rfl
theorem DkP.c1 {T : TypeId} {w0 w : World} {g bd n j : Nat} {vN vF : Value} (h : DkP T w0 w g bd n j vN vF) : w.cell? ⟨g, 1, none⟩ = some vF := (blk_cell h.hg 1).trans rfl
/-- In the middle of a round: the cells, the two rows, what they hold, and one more. -/
structure Mid (T : TypeId) (w0 w : World) (g bd n j : Nat) (cN cF vN vF z : Value) (lN lF l : List Value) : Prop where
  below : Below w0.heap.size w0 w
  g0 : w0.heap.size ≤ g
  hg : w.heap[g]? = some (.cells #[cN, cF, .slice (some ⟨bd, 0, none⟩) n n] T (0, 0))
  rN : w.ownsRow w0.heap.size 27 1 vN lN.length lN
  rF : w.ownsRow w0.heap.size 27 1 vF lF.length lF
  ne : vN.ownBlock = none ∨ vN.ownBlock ≠ vF.ownBlock
  hd : Row w bd 4 (List.replicate n (.bool false))
  hl : l.length = j
  bs : Byts (fun _ => True) w l (List.replicate j (List.replicate 512 0))
  bz : Byt (fun _ => True) w z (List.replicate 512 0)
theorem own_type {w : World} {base : Nat} {e : TypeId} {v : Value} {n : Nat} {xs : List Value} (h : w.ownsRow base e 1 v n xs) : ∀ k, v.ownBlock = some k → ∃ cs, w.heap[k]? = some (.cells cs e (0, 0)) := by
  intro k hk
  rcases h.2 with ⟨rfl, _⟩ | ⟨g, cap, cur, rfl, _, hg, _⟩
  · cases hk
  · obtain rfl := Option.some.inj hk
    exact ⟨cur, hg⟩
theorem own_ne {w : World} {base : Nat} {e t : TypeId} {v : Value} {n : Nat} {xs : List Value} {k : Nat} {cs : Array Value} (h : w.ownsRow base e 1 v n xs) (hk : w.heap[k]? = some (.cells cs t (0, 0))) (ht : e ≠ t) : some k ≠ v.ownBlock := by
  intro he
  obtain ⟨cs', h'⟩ := own_type h k he.symm
  exact blk_ne h' hk ht rfl
theorem Mid.alloc {T : TypeId} {w0 w : World} {g bd n j : Nat} {cN cF vN vF z : Value} {lN lF l : List Value} (h : Mid T w0 w g bd n j cN cF vN vF z lN lF l) (o : Obj) : Mid T w0 (w.alloc o) g bd n j cN cF vN vF z lN lF l := by
  have hb : Below w.heap.size w (w.alloc o) := (Below.refl _ _).alloc (Nat.le_refl _) o
  exact ⟨below_step h.below hb, h.g0, blk_below h.hg hb, h.rN.alloc o, h.rF.alloc o, h.ne, h.hd.same (hb.block _ h.hd.lt), h.hl, h.bs.same fun q cs e => hb.block q (blk_lt e), h.bz.same fun q cs e => hb.block q (blk_lt e)⟩
theorem Mid.drew {T : TypeId} {w0 w : World} {g bd n j : Nat} {cN cF vN vF z : Value} {lN lF l : List Value} (h : Mid T w0 w g bd n j cN cF vN vF z lN lF l) : Mid T w0 w.drew g bd n j cN cF vN vF z lN lF l := by
  have hb : Below w.heap.size w w.drew := Below.drew (Below.refl _ _)
  exact ⟨below_step h.below hb, h.g0, h.hg, h.rN, h.rF, h.ne, h.hd, h.hl, h.bs, h.bz⟩
theorem Mid.c0 {T : TypeId} {w0 w : World} {g bd n j : Nat} {cN cF vN vF z : Value} {lN lF l : List Value} (h : Mid T w0 w g bd n j cN cF vN vF z lN lF l) : w.cell? ⟨g, 0, none⟩ = some cN := (blk_cell h.hg 0).trans rfl
theorem Mid.c1 {T : TypeId} {w0 w : World} {g bd n j : Nat} {cN cF vN vF z : Value} {lN lF l : List Value} (h : Mid T w0 w g bd n j cN cF vN vF z lN lF l) : w.cell? ⟨g, 1, none⟩ = some cF := (blk_cell h.hg 1).trans rfl
theorem news1 {w : World} {a : Nat} {z : Value} {t : TypeId} (h : w.heap[a]? = some (.cells #[z] t (0, 0))) : ∀ (j : Nat) (u : Value), [z][j]? = some u → w.cell? ((⟨a, 0, none⟩ : Addr).add j) = some u := by
  intro j u hu
  rw [add_plain, blk_cell h]
  simpa using hu
theorem blk_new2 (w : World) (o o' : Obj) : ((w.alloc o).alloc o').heap[w.heap.size + 1]? = some o' := by
  have h := blk_new (w.alloc o) o'
  rwa [World.size_alloc] at h
theorem Mid.appN {T : TypeId} {w0 w w1 : World} {g bd n j : Nat} {cN cF vN vF z : Value} {lN lF l : List Value} {g1 m cap : Nat} (h : Mid T w0 w g bd n j cN cF vN vF z lN lF l) (hT : T ≠ 27) (ho : w1.ownsRow w0.heap.size 27 1 (.slice (some ⟨g1, 0, none⟩) m cap) m (lN ++ [z])) (hg : w.grownBy w1 vN.ownBlock) (ha : vN.ownBlock = some g1 ∨ g1 = w.heap.size) : Mid T w0 w1 g bd n j cN cF (.slice (some ⟨g1, 0, none⟩) m cap) vF z (lN ++ [z]) lF l := by
  have hm : m = (lN ++ [z]).length := by rw [ho.1, Nat.mul_one]
  have q8 : ∀ (q : Nat) (cs : Array Value), w.heap[q]? = some (.cells cs 5 (0, 0)) → w1.heap[q]? = w.heap[q]? := fun q cs e => hg.block q (blk_lt e) (own_ne h.rN e (by decide))
  refine ⟨h.below.grown hg h.below.size (fun k hk => (h.rN.lt k hk).1), h.g0, blk_grown h.hg hg (own_ne h.rN h.hg (Ne.symm hT)), by rw [← hm]; exact ho, h.rF.kept hg (h.ne.elim (fun e => by rw [e]; cases vF.ownBlock <;> simp) fun e => .inr (Ne.symm e)), .inr ?_, h.hd.same (hg.block _ h.hd.lt (own_ne h.rN h.hd.choose_spec.1 (by decide))), h.hl, h.bs.same q8, h.bz.same q8⟩
  show some g1 ≠ vF.ownBlock
  rcases ha with e | e
  · rw [← e]; exact h.ne.resolve_left (by rw [e]; simp)
  · intro e2
    have := (h.rF.lt g1 e2.symm).2
    omega
theorem Mid.appF {T : TypeId} {w0 w w1 : World} {g bd n j : Nat} {cN cF vN vF z : Value} {lN lF l : List Value} {g1 m cap : Nat} (h : Mid T w0 w g bd n j cN cF vN vF z lN lF l) (hT : T ≠ 27) (ho : w1.ownsRow w0.heap.size 27 1 (.slice (some ⟨g1, 0, none⟩) m cap) m (lF ++ [z])) (hg : w.grownBy w1 vF.ownBlock) (ha : vF.ownBlock = some g1 ∨ g1 = w.heap.size) : Mid T w0 w1 g bd n j cN cF vN (.slice (some ⟨g1, 0, none⟩) m cap) z lN (lF ++ [z]) l := by
  have hm : m = (lF ++ [z]).length := by rw [ho.1, Nat.mul_one]
  have q8 : ∀ (q : Nat) (cs : Array Value), w.heap[q]? = some (.cells cs 5 (0, 0)) → w1.heap[q]? = w.heap[q]? := fun q cs e => hg.block q (blk_lt e) (own_ne h.rF e (by decide))
  have hne2 : vN.ownBlock = none ∨ vN.ownBlock ≠ some g1 := by
    rcases h.ne with e | e
    · exact .inl e
    · rcases ha with e2 | e2
      · exact .inr (by rw [← e2]; exact e)
      · refine .inr fun e3 => ?_
        have := (h.rN.lt g1 e3).2
        omega
  refine ⟨h.below.grown hg h.below.size (fun k hk => (h.rF.lt k hk).1), h.g0, blk_grown h.hg hg (own_ne h.rF h.hg (Ne.symm hT)), h.rN.kept hg h.ne, by rw [← hm]; exact ho, hne2, h.hd.same (hg.block _ h.hd.lt (own_ne h.rF h.hd.choose_spec.1 (by decide))), h.hl, h.bs.same q8, h.bz.same q8⟩
/-- The cells are stored: the round is over. -/
theorem Mid.stored {T : TypeId} {w0 w : World} {g bd n j : Nat} {cN cF vN vF z : Value} {l : List Value} (h : Mid T w0 w g bd n j cN cF vN vF z (l ++ [z]) (l ++ [z]) l) (hT : T ≠ 27) (hT2 : T ≠ 4) (hT3 : T ≠ 5) : DkP T w0 ((w.setCell ⟨g, 0, none⟩ vN).setCell ⟨g, 1, none⟩ vF) g bd n (j + 1) vN vF := by
  have hb : Keeps (fun k => k = g) w ((w.setCell ⟨g, 0, none⟩ vN).setCell ⟨g, 1, none⟩ vF) := (Keeps.set (fun k => k = g) w g 0 vN rfl).trans (Keeps.set (fun k => k = g) _ g 1 vF rfl)
  have q8 : ∀ (q : Nat) (cs : Array Value), w.heap[q]? = some (.cells cs 5 (0, 0)) → ((w.setCell ⟨g, 0, none⟩ vN).setCell ⟨g, 1, none⟩ vF).heap[q]? = w.heap[q]? := fun q cs e => hb.far q (blk_lt e) (fun e2 => blk_ne h.hg (e2 ▸ e) hT3 rfl)
  have hl : (l ++ [z]).length = j + 1 := by rw [List.length_append, h.hl]; rfl
  have own : ∀ (v : Value) (m : Nat) (xs : List Value), w.ownsRow w0.heap.size 27 1 v m xs → ((w.setCell ⟨g, 0, none⟩ vN).setCell ⟨g, 1, none⟩ vF).ownsRow w0.heap.size 27 1 v m xs := fun v m xs ho => by
    refine ⟨ho.1, ?_⟩
    rcases ho.2 with e | ⟨q, cap, cur, e, e1, e2, r⟩
    · exact .inl e
    · exact .inr ⟨q, cap, cur, e, e1, (hb.far q (blk_lt e2) (fun e3 => blk_ne h.hg (e3 ▸ e2) hT rfl)).trans e2, r⟩
  have hN := own _ _ _ h.rN
  have hF := own _ _ _ h.rF
  rw [hl] at hN hF
  refine ⟨hb.below (fun k hk => by rw [hk]; exact h.g0) h.below.size h.below, blk_put (blk_put h.hg 0 vN rfl) 1 vF rfl, ⟨l ++ [z], hl, hN, hF, ?_⟩, h.ne, h.hd.same (hb.far _ h.hd.lt (fun e => by obtain ⟨cs, ec, _⟩ := h.hd; rw [show bd = g from e] at ec; exact blk_ne h.hg ec hT2 rfl))⟩
  have h1 := h.bs.same q8
  have h2 := h.bz.same q8
  refine ⟨by rw [hl, List.length_replicate], fun i v m hv hm => ?_⟩
  rw [List.getElem?_replicate] at hm
  split at hm
  · obtain rfl := Option.some.inj hm
    by_cases hi : i < j
    · rw [List.getElem?_append_left (by rw [h.hl]; exact hi)] at hv
      exact h1.2 i v _ hv (by rw [List.getElem?_replicate, if_pos hi])
    · obtain rfl : i = j := by omega
      rw [List.getElem?_append_right (by rw [h.hl]; exact Nat.le_refl _), h.hl, Nat.sub_self] at hv
      obtain rfl := Option.some.inj hv
      exact h2
  · cases hm
theorem info_u8 : (Try.prog.info? 5).map (fun i => (i.zero, i.size, i.bytes)) = some (some (.int .u8 0), 1, 1) := by kernel_rfl
theorem make_run {e t : TypeId} {z : Value} {by_ : Nat} (ht : Try.prog.underlying t = some (.slice e)) (hinf : (Try.prog.info? e).map (fun i => (i.zero, i.size, i.bytes)) = some (some z, 1, by_)) (hz : z.cells = #[z]) (n : Nat) (hn : n ≤ 1000) (hb : by_ ≤ 1000) : ∃ Z : Array Value, Z.toList = List.replicate n z ∧ ∀ W : World, (Instr.makeSlice t (.int .i64 (n : Int)) (.int .i64 (n : Int))).run Try.prog W = .ok (.slice (some ⟨W.heap.size, 0, none⟩) n n) (W.alloc (.cells Z e (0, 0))) := by
  obtain ⟨i, hi, hzz⟩ := Option.map_eq_some_iff.1 hinf
  simp only [Prod.mk.injEq] at hzz
  obtain ⟨hz0, hz1, hz2⟩ := hzz
  refine ⟨madeCells #[z] n, toList_madeCells_one z n, fun W => ?_⟩
  have h3 : ((i.bytes * n : Nat) : Int) ≤ 281474976710656 := by
    have : i.bytes * n ≤ 1000 * 1000 := Nat.mul_le_mul (by omega) hn
    omega
  have h := run_make (P := Try.prog) W t e i z ht hi hz0 .i64 .i64 (n : Int) (n : Int) (by omega) (Int.le_refl _) (by rw [← Int.natCast_mul]; exact h3) (by omega)
  rw [hz1, hz, Int.toNat_natCast, Nat.mul_one] at h
  exact h
theorem Row.of_toList {w : World} {b : Nat} {t : TypeId} {cs : Array Value} {vs : List Value} (h : w.heap[b]? = some (.cells cs t (0, 0))) (hv : cs.toList = vs) : Row w b t vs := ⟨cs, h, fun i v e => by rw [← hv] at e; simpa using e⟩
/-- A round begins: one more block of zeros is made. -/
theorem DkP.mid {T : TypeId} {w0 w : World} {g bd n j : Nat} {vN vF : Value} (h : DkP T w0 w g bd n j vN vF) (g0 : w0.heap.size ≤ g) {Z : Array Value} (hZ : Z.toList = List.replicate 512 (.int .u8 0)) : ∃ l, l.length = j ∧ Mid T w0 (w.alloc (.cells Z 5 (0, 0))) g bd n j vN vF vN vF (.slice (some ⟨w.heap.size, 0, none⟩) 512 512) l l l := by
  obtain ⟨l, hl, r1, r2, b⟩ := h.rows
  have hb : Below w.heap.size w (w.alloc (.cells Z 5 (0, 0))) := (Below.refl _ _).alloc (Nat.le_refl _) _
  have e1 := r1.alloc (.cells Z 5 (0, 0))
  have e2 := r2.alloc (.cells Z 5 (0, 0))
  refine ⟨l, hl, below_step h.below hb, g0, blk_below h.hg hb, by rw [hl]; exact e1, by rw [hl]; exact e2, h.ne, h.hd.same (hb.block _ h.hd.lt), hl, b.same fun q cs e => hb.block q (blk_lt e), ⟨w.heap.size, 512, trivial, by rw [List.length_replicate], by rw [List.length_replicate]; exact Nat.le_refl _, List.length_replicate, ?_⟩⟩
  refine Row.of_toList (blk_new _ _) (hZ.trans ?_)
  rw [List.map_replicate]
theorem DkP.start {T : TypeId} (w : World) {n : Nat} {Z : Array Value} (hZ : Z.toList = List.replicate n (.bool false)) : DkP T w ((w.alloc (.cells Z 4 (0, 0))).alloc (.cells #[.slice none 0 0, .slice none 0 0, .slice (some ⟨w.heap.size, 0, none⟩) n n] T (0, 0))) (w.heap.size + 1) w.heap.size n 0 (.slice none 0 0) (.slice none 0 0) := by
  have h1 : Below w.heap.size w (w.alloc (.cells Z 4 (0, 0))) := (Below.refl _ _).alloc (Nat.le_refl _) _
  refine ⟨h1.alloc h1.size _, blk_new2 _ _ _, ⟨[], rfl, World.ownsRow_nil _ _ _ _, World.ownsRow_nil _ _ _ _, ⟨rfl, fun i v l e => by simp at e⟩⟩, .inl rfl, ?_⟩
  exact Row.of_toList (blk_alloc (blk_new _ _) _) hZ
theorem DkP.done {T : TypeId} {w0 w : World} {bd n : Nat} {vN vF : Value} (h : DkP T w0 w (bd + 1) bd n n vN vF) (hbd : bd = w0.heap.size) (h1 : 1 ≤ n) (h2 : n ≤ 256) : ∃ o : Own, o.g = bd + 1 ∧ Dk (fun _ => True) T w o ⟨List.replicate n (List.replicate 512 0), List.replicate n (List.replicate 512 0), List.replicate n false⟩ ∧ (∀ k, o.has k → w0.heap.size ≤ k) := by
  obtain ⟨l, hl, r1, r2, b⟩ := h.rows
  have hne := h.ne
  obtain ⟨gN, cN, rfl, q1, q2, q3, q4⟩ := Row.of_own r1 (by omega)
  obtain ⟨gF, cF, rfl, p1, p2, p3, p4⟩ := Row.of_own r2 (by omega)
  refine ⟨⟨bd + 1, gN, gF, bd, cN, cF, n⟩, rfl, ⟨by show 0 < (List.replicate n _).length; rw [List.length_replicate]; omega, by show (List.replicate n _).length ≤ 256; rw [List.length_replicate]; omega, rfl, by show (List.replicate n _).length = (List.replicate n _).length; rw [List.length_replicate, List.length_replicate], ?_, ⟨l, q4, b⟩, ⟨l, p4, b⟩, ?_, ?_⟩, ?_⟩
  · show w.heap[bd + 1]? = some (.cells #[.slice (some ⟨gN, 0, none⟩) (List.replicate n (List.replicate 512 (0 : Int))).length cN, .slice (some ⟨gF, 0, none⟩) (List.replicate n (List.replicate 512 (0 : Int))).length cF, .slice (some ⟨bd, 0, none⟩) (List.replicate n (List.replicate 512 (0 : Int))).length n] T (0, 0)) ∧ (List.replicate n (List.replicate 512 (0 : Int))).length ≤ cN ∧ (List.replicate n (List.replicate 512 (0 : Int))).length ≤ cF ∧ (List.replicate n (List.replicate 512 (0 : Int))).length ≤ n
    rw [List.length_replicate]
    exact ⟨h.hg, q1, p1, Nat.le_refl _⟩
  · show Row w bd 4 ((List.replicate n false).map .bool)
    rw [List.map_replicate]
    exact h.hd
  · show gN ≠ gF
    rcases hne with e | e
    · cases e
    · intro e2; exact e (by rw [e2]; rfl)
  · intro k hk
    have hk : k = bd + 1 ∨ k = gN ∨ k = gF ∨ k = bd := hk
    omega

set_option maxHeartbeats 8000000 in
set_option maxRecDepth 100000 in
theorem Dk_NewNo.calls (n : Int) (w : World) (hn : n < 1 ∨ 256 < n) :
    Calls Try.prog 7 #[.int .i64 n] w fun e w' => e = .returned (.pointer none) ∧ w' = w := by
  by_cases h1 : n < 1
  · have c1 : decide (n < 1) = true := decide_eq_true h1
    go_enter Try.func7, Try.ntmps7
    go_wp2
    go_ret
    exact ⟨rfl, rfl⟩
  · have h2 := hn.resolve_left h1
    have c1 : decide (n < 1) = false := decide_eq_false h1
    have c2 : decide (n > 256) = true := decide_eq_true (by omega)
    have c3 : decide (256 < n) = true := decide_eq_true h2
    go_enter Try.func7, Try.ntmps7
    go_wp2
    go_ret
    exact ⟨rfl, rfl⟩

set_option maxHeartbeats 8000000 in
set_option maxRecDepth 100000 in
theorem Dk_New.calls (n : Nat) (w : World) (h1 : 1 ≤ n) (h2 : n ≤ 256) :
    Calls Try.prog 7 #[.int .i64 (n : Int)] w fun e w' => ∃ o : Own, e = .returned (.pointer (some ⟨o.g, 0, none⟩)) ∧ Dk (fun _ => True) 52 w' o ⟨List.replicate n (List.replicate 512 0), List.replicate n (List.replicate 512 0), List.replicate n false⟩ ∧ (∀ k, o.has k → w.heap.size ≤ k) ∧ Below w.heap.size w w' := by
  have c1 : decide ((n : Int) < 1) = false := decide_eq_false (by omega)
  have c2 : decide ((n : Int) > 256) = false := decide_eq_false (by omega)
  have c3 : decide (256 < (n : Int)) = false := decide_eq_false (by omega)
  have H1 := Aside0.mk h1
  have H2 := Aside0.mk h2
  obtain ⟨i0, hi, hz0, hz1, hz2⟩ := info_parts info_bytes
  have HI := Aside0.mk (And.intro hi (And.intro hz0 (And.intro hz1 hz2)))
  clear hi hz0 hz1 hz2
  obtain ⟨ZB, hZB, hmb⟩ := make_run (e := 4) (t := 49) (z := .bool false) Try.underlying49 info_bool rfl n (by omega) (by omega)
  obtain ⟨ZU, hZU, hmu⟩ := make_run (e := 5) (t := 27) (z := .int .u8 0) Try.underlying27 info_u8 rfl 512 (by omega) (by omega)
  have hmu : ∀ W : World, (Instr.makeSlice 27 (.int .i64 512) (.int .i64 512)).run Try.prog W = .ok (.slice (some ⟨W.heap.size, 0, none⟩) 512 512) (W.alloc (.cells ZU 5 (0, 0))) := hmu
  have HZB := Aside0.mk hZB
  have HZU := Aside0.mk hZU
  clear h1 h2 hZB hZU
  go_enter Try.func7, Try.ntmps7
  go_wp2
  have HST := Aside0.mk (DkP.start (T := 52) w HZB.out)
  obtain ⟨gd, hgd⟩ : ∃ gd, gd = w.heap.size := ⟨_, rfl⟩
  rw [← hgd] at HST ⊢
  have HGD := Aside0.mk hgd
  clear hgd
  go_loopg [16] n (fun kq v16 w' => ∃ (j : Nat) (vN vF : Value), v16 = .int .i64 (j : Int) ∧ Aside0 (j + kq = n) ∧ Aside0 (DkP 52 w w' (gd + 1) gd n j vN vF))
  case atStart => exact ⟨0, _, _, (by first | rfl | (simp; done)), ⟨by omega⟩, HST⟩
  case round =>
    obtain ⟨j, vN, vF, rfl, HJ, HP⟩ := hrel
    by_cases c8 : j < n
    · have c8b : decide ((j : Int) < (n : Int)) = true := decide_eq_true (by omega)
      cases gk with
      | zero => have := HJ.out; omega
      | succ k1 =>
        go_wp2
        obtain ⟨l, hl, hM⟩ := HP.out.mid (by have := HGD.out; omega) HZU.out
        have HLl := Aside0.mk hl
        generalize hwz : wr.alloc (.cells ZU 5 (0, 0)) = wz at *
        generalize hz : wr.heap.size = zq at *
        have hvN := Aside0.mk (fun k hk => (hM.rN.lt k hk).2)
        replace hM := hM.drew
        clear hwz hz hl HP
        refine start_ (n := 22) (S := fun w' => w'.cell? ⟨gd + 1, 0, none⟩ = some vN ∧ w'.cell? ⟨gd + 1, 1, none⟩ = some vF) (ds := [18, 21]) #[false, false, false, false, false, false, false, false, false, false, false, false, false, false, false, false, false, false, false, false, false, false] (by kernel_rfl) rfl rfl ⟨hM.c0, hM.c1⟩ (fun hHeld => ?_)
        refine pure_ (i := 0) (N := some 19) (v := ?_) (a' := ?_) #[true, false, false, false, false, false, false, false, false, false, false, false, false, false, false, false, false, false, false, false, false, false] rfl rfl (by kernel_rfl) (fun _ _ _ h => h) (Or.inl ⟨by rfl, ?_⟩) ?_ ?_
        rotate_left
        · intro w'
          go_simp
          with_reducible rfl
        rotate_left
        · simp only [Act.put, List.setIfInBounds_toArray, List.set_cons_zero, List.set_cons_succ, i64_w, i32_w]
          rfl
        refine pure_ (i := 1) (N := some 20) (v := ?_) (a' := ?_) #[true, true, false, false, false, false, false, false, false, false, false, false, false, false, false, false, false, false, false, false, false, false] rfl rfl (by kernel_rfl) (fun _ _ _ h => h) (Or.inl ⟨by rfl, ?_⟩) ?_ ?_
        rotate_left
        · intro w'
          go_simp
          with_reducible rfl
        rotate_left
        · simp only [Act.put, List.setIfInBounds_toArray, List.set_cons_zero, List.set_cons_succ, i64_w, i32_w]
          rfl
        refine pure_ (i := 2) (N := some 21) (v := ?_) (a' := ?_) #[true, true, true, false, false, false, false, false, false, false, false, false, false, false, false, false, false, false, false, false, false, false] rfl rfl (by kernel_rfl) (fun _ _ _ h => h) (Or.inl ⟨by rfl, ?_⟩) ?_ ?_
        rotate_left
        · intro w'
          go_simp
          with_reducible rfl
        rotate_left
        · simp only [Act.put, List.setIfInBounds_toArray, List.set_cons_zero, List.set_cons_succ, i64_w, i32_w]
          rfl
        refine pure_ (i := 3) (N := some 22) (v := ?_) (a' := ?_) #[true, true, true, true, false, false, false, false, false, false, false, false, false, false, false, false, false, false, false, false, false, false] rfl rfl (by kernel_rfl) (fun _ _ _ h => h) (Or.inl ⟨by rfl, ?_⟩) ?_ ?_
        rotate_left
        · intro w'
          go_simp
          with_reducible rfl
        rotate_left
        · simp only [Act.put, List.setIfInBounds_toArray, List.set_cons_zero, List.set_cons_succ, i64_w, i32_w]
          rfl
        refine pure_ (i := 4) (N := some 23) (v := ?_) (a' := ?_) #[true, true, true, true, true, false, false, false, false, false, false, false, false, false, false, false, false, false, false, false, false, false] rfl rfl (by kernel_rfl) (fun _ _ _ h => h) (Or.inl ⟨by rfl, ?_⟩) ?_ ?_
        rotate_left
        · intro w'
          go_simp
          with_reducible rfl
        rotate_left
        · simp only [Act.put, List.setIfInBounds_toArray, List.set_cons_zero, List.set_cons_succ, i64_w, i32_w]
          rfl
        refine pure_ (i := 6) (N := some 25) (v := ?_) (a' := ?_) #[true, true, true, true, true, false, true, false, false, false, false, false, false, false, false, false, false, false, false, false, false, false] rfl rfl (by kernel_rfl) (fun _ _ _ h => h) (Or.inl ⟨by rfl, ?_⟩) ?_ ?_
        rotate_left
        · intro w'
          go_simp
          with_reducible rfl
        rotate_left
        · simp only [Act.put, List.setIfInBounds_toArray, List.set_cons_zero, List.set_cons_succ, i64_w, i32_w]
          rfl
        refine pure_ (i := 9) (N := some 28) (v := ?_) (a' := ?_) #[true, true, true, true, true, false, true, false, false, true, false, false, false, false, false, false, false, false, false, false, false, false] rfl rfl (by kernel_rfl) (fun _ _ _ h => h) (Or.inl ⟨by rfl, ?_⟩) ?_ ?_
        rotate_left
        · intro w'
          go_simp
          with_reducible rfl
        rotate_left
        · simp only [Act.put, List.setIfInBounds_toArray, List.set_cons_zero, List.set_cons_succ, i64_w, i32_w]
          rfl
        refine pure_ (i := 10) (N := some 29) (v := ?_) (a' := ?_) #[true, true, true, true, true, false, true, false, false, true, true, false, false, false, false, false, false, false, false, false, false, false] rfl rfl (by kernel_rfl) (fun _ _ _ h => h) (Or.inl ⟨by rfl, ?_⟩) ?_ ?_
        rotate_left
        · intro w'
          go_simp
          with_reducible rfl
        rotate_left
        · simp only [Act.put, List.setIfInBounds_toArray, List.set_cons_zero, List.set_cons_succ, i64_w, i32_w]
          rfl
        refine pure_ (i := 11) (N := some 30) (v := ?_) (a' := ?_) #[true, true, true, true, true, false, true, false, false, true, true, true, false, false, false, false, false, false, false, false, false, false] rfl rfl (by kernel_rfl) (fun _ _ _ h => h) (Or.inl ⟨by rfl, ?_⟩) ?_ ?_
        rotate_left
        · intro w'
          go_simp
          with_reducible rfl
        rotate_left
        · simp only [Act.put, List.setIfInBounds_toArray, List.set_cons_zero, List.set_cons_succ, i64_w, i32_w]
          rfl
        refine pure_ (i := 13) (N := some 32) (v := ?_) (a' := ?_) #[true, true, true, true, true, false, true, false, false, true, true, true, false, true, false, false, false, false, false, false, false, false] rfl rfl (by kernel_rfl) (fun _ _ _ h => h) (Or.inl ⟨by rfl, ?_⟩) ?_ ?_
        rotate_left
        · intro w'
          go_simp
          with_reducible rfl
        rotate_left
        · simp only [Act.put, List.setIfInBounds_toArray, List.set_cons_zero, List.set_cons_succ, i64_w, i32_w]
          rfl
        refine take_ (i := 5) (N := some 24) (v := ?_) (a' := ?_) #[true, true, true, true, true, true, true, false, false, true, true, true, false, true, false, false, false, false, false, false, false, false] rfl rfl (by kernel_rfl) (fun _ _ _ h => h) (Or.inl ⟨by rfl, ?_⟩) hHeld ?_ ?_
        rotate_left
        · rintro w' ⟨s0, s1⟩
          go_simp
          with_reducible rfl
        rotate_left
        · simp only [Act.put, List.setIfInBounds_toArray, List.set_cons_zero, List.set_cons_succ, i64_w, i32_w]
          rfl
        refine take_ (i := 12) (N := some 31) (v := ?_) (a' := ?_) #[true, true, true, true, true, true, true, false, false, true, true, true, true, true, false, false, false, false, false, false, false, false] rfl rfl (by kernel_rfl) (fun _ _ _ h => h) (Or.inl ⟨by rfl, ?_⟩) hHeld ?_ ?_
        rotate_left
        · rintro w' ⟨s0, s1⟩
          go_simp
          with_reducible rfl
        rotate_left
        · simp only [Act.put, List.setIfInBounds_toArray, List.set_cons_zero, List.set_cons_succ, i64_w, i32_w]
          rfl
        refine join_ (σ := Value × Nat × Nat × Nat) 7 #[true, true, true, true, true, true, true, true, true, true, true, true, true, true, true, false, false, false, false, false, false, false] (fun s => [(26, s.1), (27, .slice (some ⟨s.2.1, 0, none⟩) (l.length + 1) s.2.2.1), (33, .slice (some ⟨s.2.2.2, 0, none⟩) 1 1)]) (fun s w' => Mid 52 w w' (gd + 1) gd n j vN vF (.slice (some ⟨s.2.1, 0, none⟩) (l.length + 1) s.2.2.1) vF (.slice (some ⟨zq, 0, none⟩) 512 512) (l ++ [(.slice (some ⟨zq, 0, none⟩) 512 512)]) l l ∧ w'.heap[s.2.2.2]? = some (.cells #[(.slice (some ⟨zq, 0, none⟩) 512 512)] 27 (0, 0))) ?_ ?_
        rotate_left
        · intro hCont
          refine two_ (i := 7) (j := 14) (Ni := some 26) (Nj := some 33) #[true, true, true, true, true, true, true, true, false, true, true, true, true, true, false, false, false, false, false, false, false, false] #[true, true, true, true, true, true, true, false, false, true, true, true, true, true, true, false, false, false, false, false, false, false] rfl rfl rfl rfl (by kernel_rfl) (by decide) (by decide) (fun K hK => ?_) (fun K hK => ?_)
          · skip
            refine value_ (w1 := ?_) (v := ?_) (by rfl) rfl ?_ ?_
            rotate_left 2
            · go_simp
              constructor
              · rfl
              · rfl
            have hB1 := blk_new wz.drew (.cells #[(.slice (some ⟨zq, 0, none⟩) 512 512)] 27 (0, 0))
            replace hM := hM.alloc (.cells #[(.slice (some ⟨zq, 0, none⟩) 512 512)] 27 (0, 0))
            refine hK.out _ _ ⟨hM.c0, hM.c1⟩ (fun hHeld => ?_)
            clear hK K
            refine norm_ (a' := ?_) ?_ ?_
            rotate_left
            · show Act.put _ (some 26) _ = _
              simp only [Act.put, List.setIfInBounds_toArray, List.set_cons_zero, List.set_cons_succ, i64_w, i32_w]
              rfl
            refine two_ (i := 8) (j := 14) (Ni := some 27) (Nj := some 33) #[true, true, true, true, true, true, true, true, true, true, true, true, true, true, false, false, false, false, false, false, false, false] #[true, true, true, true, true, true, true, true, false, true, true, true, true, true, true, false, false, false, false, false, false, false] rfl rfl rfl rfl (by kernel_rfl) (by decide) (by decide) (fun K hK => ?_) (fun K hK => ?_)
            · skip
              refine step_append_lies _ rfl (.tmp 24) (.tmp 26) 22 rfl w.heap.size 27 i0 (.slice none 0 0) 1 24 Try.underlying22 HI.out.1 HI.out.2.1 HI.out.2.2.1 HI.out.2.2.2 rfl (by decide) vN l.length l rfl hM.rN ⟨_, 0, none⟩ 1 1 [(.slice (some ⟨zq, 0, none⟩) 512 512)] rfl rfl (news1 hB1) (by intro u hu; rw [List.mem_singleton.mp hu]; rfl) (by decide) (by have := H2.out; have := HJ.out; have := HLl.out; unfold maxLen; omega) (by have := H2.out; have := HJ.out; have := HLl.out; omega) hM.below.size _ rfl ?_
              intro g1 cap1 w1 ho hg ha hlt
              replace hM := hM.appN (by decide) ho hg ha
              clear ho hg ha hB1
              refine hK.out _ _ ⟨hM.c0, hM.c1⟩ (fun hHeld => ?_)
              clear hK K
              refine norm_ (a' := ?_) ?_ ?_
              rotate_left
              · show Act.put _ (some 27) _ = _
                simp only [Act.put, List.setIfInBounds_toArray, List.set_cons_zero, List.set_cons_succ, i64_w, i32_w]
                rfl
              refine one_ (i := 14) (N := some 33) #[true, true, true, true, true, true, true, true, true, true, true, true, true, true, true, false, false, false, false, false, false, false] rfl rfl (by kernel_rfl) (by decide) (fun K hK => ?_)
              refine value_ (w1 := ?_) (v := ?_) (by rfl) rfl ?_ ?_
              rotate_left 2
              · go_simp
                constructor
                · rfl
                · rfl
              have hB2 := blk_new w1 (.cells #[(.slice (some ⟨zq, 0, none⟩) 512 512)] 27 (0, 0))
              replace hM := hM.alloc (.cells #[(.slice (some ⟨zq, 0, none⟩) 512 512)] 27 (0, 0))
              refine hK.out _ _ ⟨hM.c0, hM.c1⟩ (fun hHeld => ?_)
              clear hK K
              refine norm_ (a' := ?_) ?_ ?_
              rotate_left
              · show Act.put _ (some 33) _ = _
                simp only [Act.put, List.setIfInBounds_toArray, List.set_cons_zero, List.set_cons_succ, i64_w, i32_w]
                rfl
              exact norm_ (by first | (simp only [putAll, Act.put, List.setIfInBounds_toArray, List.set_cons_zero, List.set_cons_succ]; done) | (simp only [putAll, Act.put, List.setIfInBounds_toArray, List.set_cons_zero, List.set_cons_succ]; rfl)) (hCont (_, g1, cap1, w1.heap.size) _ ⟨hM, hB2⟩)
            · skip
              refine value_ (w1 := ?_) (v := ?_) (by rfl) rfl ?_ ?_
              rotate_left 2
              · go_simp
                constructor
                · rfl
                · rfl
              have hB2 := blk_new2 wz.drew (.cells #[(.slice (some ⟨zq, 0, none⟩) 512 512)] 27 (0, 0)) (.cells #[(.slice (some ⟨zq, 0, none⟩) 512 512)] 27 (0, 0))
              replace hB1 := blk_alloc hB1 (.cells #[(.slice (some ⟨zq, 0, none⟩) 512 512)] 27 (0, 0))
              replace hM := hM.alloc (.cells #[(.slice (some ⟨zq, 0, none⟩) 512 512)] 27 (0, 0))
              refine hK.out _ _ ⟨hM.c0, hM.c1⟩ (fun hHeld => ?_)
              clear hK K
              refine norm_ (a' := ?_) ?_ ?_
              rotate_left
              · show Act.put _ (some 33) _ = _
                simp only [Act.put, List.setIfInBounds_toArray, List.set_cons_zero, List.set_cons_succ, i64_w, i32_w]
                rfl
              refine one_ (i := 8) (N := some 27) #[true, true, true, true, true, true, true, true, true, true, true, true, true, true, true, false, false, false, false, false, false, false] rfl rfl (by kernel_rfl) (by decide) (fun K hK => ?_)
              refine step_append_lies _ rfl (.tmp 24) (.tmp 26) 22 rfl w.heap.size 27 i0 (.slice none 0 0) 1 24 Try.underlying22 HI.out.1 HI.out.2.1 HI.out.2.2.1 HI.out.2.2.2 rfl (by decide) vN l.length l rfl hM.rN ⟨_, 0, none⟩ 1 1 [(.slice (some ⟨zq, 0, none⟩) 512 512)] rfl rfl (news1 hB1) (by intro u hu; rw [List.mem_singleton.mp hu]; rfl) (by decide) (by have := H2.out; have := HJ.out; have := HLl.out; unfold maxLen; omega) (by have := H2.out; have := HJ.out; have := HLl.out; omega) hM.below.size _ rfl ?_
              intro g1 cap1 w1 ho hg ha hlt
              replace hB2 := blk_grown hB2 hg (fun e => by have h1 := hvN.out _ e.symm; have h2 : wz.drew.heap.size = wz.heap.size := rfl; omega)
              replace hM := hM.appN (by decide) ho hg ha
              clear ho hg ha hB1
              refine hK.out _ _ ⟨hM.c0, hM.c1⟩ (fun hHeld => ?_)
              clear hK K
              refine norm_ (a' := ?_) ?_ ?_
              rotate_left
              · show Act.put _ (some 27) _ = _
                simp only [Act.put, List.setIfInBounds_toArray, List.set_cons_zero, List.set_cons_succ, i64_w, i32_w]
                rfl
              exact norm_ (by first | (simp only [putAll, Act.put, List.setIfInBounds_toArray, List.set_cons_zero, List.set_cons_succ]; done) | (simp only [putAll, Act.put, List.setIfInBounds_toArray, List.set_cons_zero, List.set_cons_succ]; rfl)) (hCont (_, g1, cap1, wz.heap.size + 1) _ ⟨hM, hB2⟩)
          · skip
            refine value_ (w1 := ?_) (v := ?_) (by rfl) rfl ?_ ?_
            rotate_left 2
            · go_simp
              constructor
              · rfl
              · rfl
            have hB2 := blk_new wz.drew (.cells #[(.slice (some ⟨zq, 0, none⟩) 512 512)] 27 (0, 0))
            replace hM := hM.alloc (.cells #[(.slice (some ⟨zq, 0, none⟩) 512 512)] 27 (0, 0))
            refine hK.out _ _ ⟨hM.c0, hM.c1⟩ (fun hHeld => ?_)
            clear hK K
            refine norm_ (a' := ?_) ?_ ?_
            rotate_left
            · show Act.put _ (some 33) _ = _
              simp only [Act.put, List.setIfInBounds_toArray, List.set_cons_zero, List.set_cons_succ, i64_w, i32_w]
              rfl
            refine one_ (i := 7) (N := some 26) #[true, true, true, true, true, true, true, true, false, true, true, true, true, true, true, false, false, false, false, false, false, false] rfl rfl (by kernel_rfl) (by decide) (fun K hK => ?_)
            refine value_ (w1 := ?_) (v := ?_) (by rfl) rfl ?_ ?_
            rotate_left 2
            · go_simp
              constructor
              · rfl
              · rfl
            have hB1 := blk_new2 wz.drew (.cells #[(.slice (some ⟨zq, 0, none⟩) 512 512)] 27 (0, 0)) (.cells #[(.slice (some ⟨zq, 0, none⟩) 512 512)] 27 (0, 0))
            have hB2 := blk_alloc hB2 (.cells #[(.slice (some ⟨zq, 0, none⟩) 512 512)] 27 (0, 0))
            replace hM := hM.alloc (.cells #[(.slice (some ⟨zq, 0, none⟩) 512 512)] 27 (0, 0))
            refine hK.out _ _ ⟨hM.c0, hM.c1⟩ (fun hHeld => ?_)
            clear hK K
            refine norm_ (a' := ?_) ?_ ?_
            rotate_left
            · show Act.put _ (some 26) _ = _
              simp only [Act.put, List.setIfInBounds_toArray, List.set_cons_zero, List.set_cons_succ, i64_w, i32_w]
              rfl
            refine one_ (i := 8) (N := some 27) #[true, true, true, true, true, true, true, true, true, true, true, true, true, true, true, false, false, false, false, false, false, false] rfl rfl (by kernel_rfl) (by decide) (fun K hK => ?_)
            refine step_append_lies _ rfl (.tmp 24) (.tmp 26) 22 rfl w.heap.size 27 i0 (.slice none 0 0) 1 24 Try.underlying22 HI.out.1 HI.out.2.1 HI.out.2.2.1 HI.out.2.2.2 rfl (by decide) vN l.length l rfl hM.rN ⟨_, 0, none⟩ 1 1 [(.slice (some ⟨zq, 0, none⟩) 512 512)] rfl rfl (news1 hB1) (by intro u hu; rw [List.mem_singleton.mp hu]; rfl) (by decide) (by have := H2.out; have := HJ.out; have := HLl.out; unfold maxLen; omega) (by have := H2.out; have := HJ.out; have := HLl.out; omega) hM.below.size _ rfl ?_
            intro g1 cap1 w1 ho hg ha hlt
            replace hB2 := blk_grown hB2 hg (fun e => by have h1 := hvN.out _ e.symm; have h2 : wz.drew.heap.size = wz.heap.size := rfl; omega)
            replace hM := hM.appN (by decide) ho hg ha
            clear ho hg ha hB1
            refine hK.out _ _ ⟨hM.c0, hM.c1⟩ (fun hHeld => ?_)
            clear hK K
            refine norm_ (a' := ?_) ?_ ?_
            rotate_left
            · show Act.put _ (some 27) _ = _
              simp only [Act.put, List.setIfInBounds_toArray, List.set_cons_zero, List.set_cons_succ, i64_w, i32_w]
              rfl
            exact norm_ (by first | (simp only [putAll, Act.put, List.setIfInBounds_toArray, List.set_cons_zero, List.set_cons_succ]; done) | (simp only [putAll, Act.put, List.setIfInBounds_toArray, List.set_cons_zero, List.set_cons_succ]; rfl)) (hCont (_, g1, cap1, wz.heap.size) _ ⟨hM, hB2⟩)
        rintro ⟨b1, g1, cap1, a2⟩ w1 ⟨hM, hB2⟩
        have hHeld : w1.cell? ⟨gd + 1, 0, none⟩ = some vN ∧ w1.cell? ⟨gd + 1, 1, none⟩ = some vF := ⟨hM.c0, hM.c1⟩
        refine norm_ (a' := ?_) ?_ ?_
        rotate_left
        · simp only [putAll, Act.put, List.setIfInBounds_toArray, List.set_cons_zero, List.set_cons_succ]
          rfl
        refine one_ (i := 15) (N := some 34) #[true, true, true, true, true, true, true, true, true, true, true, true, true, true, true, true, false, false, false, false, false, false] rfl rfl (by kernel_rfl) (by decide) (fun K hK => ?_)
        refine step_append_lies _ rfl (.tmp 31) (.tmp 33) 22 rfl w.heap.size 27 i0 (.slice none 0 0) 1 24 Try.underlying22 HI.out.1 HI.out.2.1 HI.out.2.2.1 HI.out.2.2.2 rfl (by decide) vF l.length l rfl hM.rF ⟨_, 0, none⟩ 1 1 [(.slice (some ⟨zq, 0, none⟩) 512 512)] rfl rfl (news1 hB2) (by intro u hu; rw [List.mem_singleton.mp hu]; rfl) (by decide) (by have := H2.out; have := HJ.out; have := HLl.out; unfold maxLen; omega) (by have := H2.out; have := HJ.out; have := HLl.out; omega) hM.below.size _ rfl ?_
        intro g2 cap2 w2 ho hg ha hlt2
        replace hM := hM.appF (by decide) ho hg ha
        clear ho hg ha hB2
        have k0 := hM.c0
        have z0 := blk_frozen hM.hg 0
        have k1' := (blk_cell (blk_put hM.hg 0 (.slice (some ⟨g1, 0, none⟩) (l.length + 1) cap1) rfl) 1).trans (rfl : _ = some vF)
        have z1 := blk_frozen (blk_put hM.hg 0 (.slice (some ⟨g1, 0, none⟩) (l.length + 1) cap1) rfl) 1
        refine hK.out _ _ ⟨hM.c0, hM.c1⟩ (fun hHeld => ?_)
        clear hK K
        refine norm_ (a' := ?_) ?_ ?_
        rotate_left
        · show Act.put _ (some 34) _ = _
          simp only [Act.put, List.setIfInBounds_toArray, List.set_cons_zero, List.set_cons_succ, i64_w, i32_w]
          rfl
        refine pure_ (i := 16) (N := some 35) (v := ?_) (a' := ?_) #[true, true, true, true, true, true, true, true, true, true, true, true, true, true, true, true, true, false, false, false, false, false] rfl rfl (by kernel_rfl) (fun _ _ _ h => h) (Or.inl ⟨by rfl, ?_⟩) ?_ ?_
        rotate_left
        · intro w'
          go_simp
          with_reducible rfl
        rotate_left
        · simp only [Act.put, List.setIfInBounds_toArray, List.set_cons_zero, List.set_cons_succ, i64_w, i32_w]
          rfl
        refine pure_ (i := 17) (N := some 36) (v := ?_) (a' := ?_) #[true, true, true, true, true, true, true, true, true, true, true, true, true, true, true, true, true, true, false, false, false, false] rfl rfl (by kernel_rfl) (fun _ _ _ h => h) (Or.inl ⟨by rfl, ?_⟩) ?_ ?_
        rotate_left
        · intro w'
          go_simp
          with_reducible rfl
        rotate_left
        · simp only [Act.put, List.setIfInBounds_toArray, List.set_cons_zero, List.set_cons_succ, i64_w, i32_w]
          rfl
        refine last_ (i := 18) (N := none) #[true, true, true, true, true, true, true, true, true, true, true, true, true, true, true, true, true, true, true, false, false, false] rfl rfl (by kernel_rfl) (by decide) (fun K hK => ?_)
        refine skip_ (w1 := ?_) (by rfl) rfl ?_ ?_
        rotate_left
        · go_simp
          rfl
        refine hK.out _ _ ?_
        clear hK K
        refine pure_ (i := 19) (N := some 37) (v := ?_) (a' := ?_) #[true, true, true, true, true, true, true, true, true, true, true, true, true, true, true, true, true, true, true, true, false, false] rfl rfl (by kernel_rfl) (fun _ _ _ h => h) (Or.inl ⟨by rfl, ?_⟩) ?_ ?_
        rotate_left
        · intro w'
          go_simp
          with_reducible rfl
        rotate_left
        · simp only [Act.put, List.setIfInBounds_toArray, List.set_cons_zero, List.set_cons_succ, i64_w, i32_w]
          rfl
        refine pure_ (i := 20) (N := some 38) (v := ?_) (a' := ?_) #[true, true, true, true, true, true, true, true, true, true, true, true, true, true, true, true, true, true, true, true, true, false] rfl rfl (by kernel_rfl) (fun _ _ _ h => h) (Or.inl ⟨by rfl, ?_⟩) ?_ ?_
        rotate_left
        · intro w'
          go_simp
          with_reducible rfl
        rotate_left
        · simp only [Act.put, List.setIfInBounds_toArray, List.set_cons_zero, List.set_cons_succ, i64_w, i32_w]
          rfl
        refine last_ (i := 21) (N := none) #[true, true, true, true, true, true, true, true, true, true, true, true, true, true, true, true, true, true, true, true, true, true] rfl rfl (by kernel_rfl) (by decide) (fun K hK => ?_)
        refine skip_ (w1 := ?_) (by rfl) rfl ?_ ?_
        rotate_left
        · go_simp
          rfl
        refine hK.out _ _ ?_
        clear hK K
        refine done_ (by kernel_rfl) ?_
        go_wp2
        go_roundg k1
        case measure => omega
        case rel => exact ⟨j + 1, _, _, (by
            have hw : wrap64 ((j : Int) + 1) = ((j + 1 : Nat) : Int) := by have := HJ.out; have := H2.out; unfold wrap64; omega
            first | rfl | (rw [← hw]; rfl) | (simp [*]; done)), ⟨by have := HJ.out; omega⟩, ⟨hM.stored (by decide) (by decide) (by decide)⟩⟩
    · have c8b : decide ((j : Int) < (n : Int)) = false := decide_eq_false (by omega)
      have c8i : (n : Int) ≤ (j : Int) := by omega
      have c8d : decide (j < n) = false := decide_eq_false c8
      obtain rfl : j = n := by have := HJ.out; omega
      go_wp2
      go_ret
      obtain ⟨o, ho, hD, hge⟩ := HP.out.done HGD.out H1.out H2.out
      exact ⟨o, by rw [ho]; rfl, hD, hge, HP.out.below⟩

end
section
variable {ok ok2 : Nat → Prop}
theorem Byt.of_own {w : World} {base m : Nat} {v : Value} {l : List Int} (h : w.ownsRow base 5 1 v m (l.map (fun x => .int .u8 x))) (hm : m = l.length) (hl : l.length = 512) (hok : ∀ k, base ≤ k → ok k) : Byt ok w v l := by
  obtain ⟨g, cap, rfl, q1, q2, q3, q4⟩ := Row.of_own h (by omega)
  exact ⟨g, cap, hok g q2, by rw [hm], by omega, hl, q4⟩
theorem info_u8' : (Try.prog.info? 5).map (fun i => (i.zero, i.size, i.bytes)) = some (some (.int .u8 0), 1, 1) := by kernel_rfl
/-- append([]byte(nil), l...) -/
theorem copy_step {ops : Array Oper} {o : Oper} {a : Act} {K : Act → World → Prop} {Q : Exit → Act → World → Prop} {E : Prop} (W : World) (hgd : o.guard = none) (x : Operand) (ho : o.op = .call { callee := .builtin .append, args := #[.const (.slice none 0 0), x], argTypes := #[27, 27] }) (A : Option Addr) (c : Nat) (l : List Int) (hx : a.eval x = .slice A l.length c) (hC : Kd.C (Kd.int .u8) W A l.length l) (hl : l.length = 512) (hok : ∀ k, W.heap.size ≤ k → ok k)
    (h : ∀ g cap w', Byt ok w' (.slice (some ⟨g, 0, none⟩) l.length cap) l → Below W.heap.size W w' → K (a.put o.dst (.slice (some ⟨g, 0, none⟩) l.length cap)) w') :
    if Region.wanted o (yielded ops a.tmps) = true then Oper.wp Try.prog o a W K Q else E := by
  obtain ⟨i0, hi, hz0, hz1, hz2⟩ := info_parts info_u8'
  obtain ⟨_, _, h3⟩ := Kd.reads_of_C (d := (0 : Int)) hC
  obtain ⟨ad, rfl, hc⟩ := h3 (by omega)
  refine step_append_lies W hgd (.const (.slice none 0 0)) x 27 ho W.heap.size 5 i0 (.int .u8 0) 1 1 Try.underlying27 hi hz0 hz1 hz2 rfl (by decide) (.slice none 0 0) 0 [] rfl (World.ownsRow_nil _ _ _ _) ad l.length c (l.map (fun x => .int .u8 x)) hx (by rw [List.length_map, Nat.mul_one]) ?_ ?_ (by omega) (by unfold maxLen; omega) (by omega) (Nat.le_refl _) _ rfl ?_
  · intro j u hu
    rw [List.getElem?_map] at hu
    by_cases hj : j < l.length
    · rw [List.getElem?_eq_getElem hj, Option.map_some] at hu
      rw [hc j hj, List.getD_eq_getElem?_getD, List.getElem?_eq_getElem hj]
      exact hu
    · rw [List.getElem?_eq_none (by omega)] at hu
      cases hu
  · intro u hu
    obtain ⟨b, _, rfl⟩ := List.mem_map.mp hu
    rfl
  · intro g cap w' ho2 hg ha hlt
    rw [Nat.zero_add, List.nil_append] at ho2
    rw [Nat.zero_add]
    exact h g cap w' (Byt.of_own ho2 rfl hl hok) ((Below.refl _ _).grown hg (Nat.le_refl _) (by intro k hk; cases hk))
theorem Dk.elN {T : TypeId} {w : World} {o : Own} {s : DS} (h : Dk ok T w o s) {i : Nat} (hi : i < s.now.length) : ∃ q c, w.cell? ⟨o.bn, i, none⟩ = some (.slice (some ⟨q, 0, none⟩) (s.now.getD i []).length c) ∧ Kd.C (Kd.int .u8) w (some ⟨q, 0, none⟩) (s.now.getD i []).length (s.now.getD i []) ∧ (s.now.getD i []).length = 512 := by
  obtain ⟨vs, r, b⟩ := h.vn
  obtain ⟨u, hu, hb⟩ := b.at hi
  rw [List.getD_eq_getElem?_getD, List.getElem?_eq_getElem hi]
  obtain ⟨q, c, rfl, _, hC⟩ := hb.reads
  exact ⟨q, c, r.cell hu, hC, by obtain ⟨_, _, _, _, _, hl, _⟩ := hb; exact hl⟩
theorem Dk.elF {T : TypeId} {w : World} {o : Own} {s : DS} (h : Dk ok T w o s) {i : Nat} (hi : i < s.now.length) : ∃ q c, w.cell? ⟨o.bf, i, none⟩ = some (.slice (some ⟨q, 0, none⟩) (s.firm.getD i []).length c) ∧ Kd.C (Kd.int .u8) w (some ⟨q, 0, none⟩) (s.firm.getD i []).length (s.firm.getD i []) ∧ (s.firm.getD i []).length = 512 := by
  obtain ⟨vs, r, b⟩ := h.vf
  have hi2 : i < s.firm.length := by rw [h.nf]; exact hi
  obtain ⟨u, hu, hb⟩ := b.at hi2
  rw [List.getD_eq_getElem?_getD, List.getElem?_eq_getElem hi2]
  obtain ⟨q, c, rfl, _, hC⟩ := hb.reads
  exact ⟨q, c, r.cell hu, hC, by obtain ⟨_, _, _, _, _, hl, _⟩ := hb; exact hl⟩

end
section
variable {ok ok2 : Nat → Prop}
theorem take_set {α : Type} (d : α) (a b : List α) (j : Nat) (hj : j < a.length) (hb : b.length = a.length) : (a.take j ++ b.drop j).set j (a.getD j d) = a.take (j + 1) ++ b.drop (j + 1) := by
  have h1 : (a.take j).length = j := by rw [List.length_take]; omega
  have h2 : b.drop j = b[j] :: b.drop (j + 1) := List.drop_eq_getElem_cons (by omega)
  rw [List.set_append_right _ _ (by omega), h1, Nat.sub_self, h2, List.set_cons_zero, List.take_succ_eq_append_getElem hj, List.append_assoc, List.getD_eq_getElem?_getD, List.getElem?_eq_getElem hj]
  rfl
theorem rep_set (D : List Bool) (j : Nat) (hj : j < D.length) : (List.replicate j false ++ D.drop j).set j false = List.replicate (j + 1) false ++ D.drop (j + 1) := by
  have h2 : D.drop j = D[j] :: D.drop (j + 1) := List.drop_eq_getElem_cons hj
  rw [List.set_append_right _ _ (by rw [List.length_replicate]; exact Nat.le_refl _), List.length_replicate, Nat.sub_self, h2, List.set_cons_zero, List.replicate_succ', List.append_assoc]
  rfl
/-- The first so many are flushed. -/
def DS.fl (s : DS) (j : Nat) : DS := ⟨s.now, s.now.take j ++ s.firm.drop j, List.replicate j false ++ s.dirty.drop j⟩
/-- The first so many are as they last. -/
def DS.bk (s : DS) (j : Nat) : DS := ⟨s.firm.take j ++ s.now.drop j, s.firm, List.replicate j false ++ s.dirty.drop j⟩
theorem DS.bk_len (s : DS) (j : Nat) (hj : j ≤ s.now.length) (h : s.firm.length = s.now.length) : (s.bk j).now.length = s.now.length := by
  show (s.firm.take j ++ s.now.drop j).length = _
  rw [List.length_append, List.length_take, List.length_drop]; omega

theorem DS.fl_step (s : DS) (j : Nat) (lx : List Int) (hlx : (s.fl j).now.getD j [] = lx) (hj : j < s.now.length) (hf : s.firm.length = s.now.length) (hd : s.dirty.length = s.now.length) : (⟨(s.fl j).now, (s.fl j).firm.set j lx, (s.fl j).dirty.set j false⟩ : DS) = s.fl (j + 1) := by
  subst hlx
  show (⟨s.now, (s.now.take j ++ s.firm.drop j).set j (s.now.getD j []), (List.replicate j false ++ s.dirty.drop j).set j false⟩ : DS) = ⟨s.now, s.now.take (j + 1) ++ s.firm.drop (j + 1), List.replicate (j + 1) false ++ s.dirty.drop (j + 1)⟩
  rw [take_set [] s.now s.firm j hj hf, rep_set s.dirty j (by omega)]
theorem DS.bk_step (s : DS) (j : Nat) (lx : List Int) (hlx : (s.bk j).firm.getD j [] = lx) (hj : j < s.now.length) (hf : s.firm.length = s.now.length) (hd : s.dirty.length = s.now.length) : (⟨(s.bk j).now.set j lx, (s.bk j).firm, (s.bk j).dirty.set j false⟩ : DS) = s.bk (j + 1) := by
  subst hlx
  show (⟨(s.firm.take j ++ s.now.drop j).set j (s.firm.getD j []), s.firm, (List.replicate j false ++ s.dirty.drop j).set j false⟩ : DS) = ⟨s.firm.take (j + 1) ++ s.now.drop (j + 1), s.firm, List.replicate (j + 1) false ++ s.dirty.drop (j + 1)⟩
  rw [take_set [] s.firm s.now j (by omega) hf.symm, rep_set s.dirty j (by omega)]

end
section
variable {ok ok2 : Nat → Prop}
def keepL (keep : List Bool) : List Nat → Nat → DS → Nat → DS × Nat
  | [], _, s, n => (s, n)
  | i :: r, k, s, n => if kept keep k = true then keepL keep r (k + 1) (s.keep i) (n + 1) else keepL keep r (k + 1) s n

end
section
variable {ok ok2 : Nat → Prop}
/-- A disk in the making: what its cells hold, its two rows. -/
structure MidR (T : TypeId) (w0 w : World) (g bd n jN jF : Nat) (cN cF vN vF : Value) : Prop where
  below : Below w0.heap.size w0 w
  g0 : w0.heap.size ≤ g
  hg : w.heap[g]? = some (.cells #[cN, cF, .slice (some ⟨bd, 0, none⟩) n n] T (0, 0))
  rN : ∃ vs, vs.length = jN ∧ w.ownsRow w0.heap.size 27 1 vN jN vs ∧ Byts (fun _ => True) w vs (List.replicate jN (List.replicate 512 0))
  rF : ∃ vs, vs.length = jF ∧ w.ownsRow w0.heap.size 27 1 vF jF vs ∧ Byts (fun _ => True) w vs (List.replicate jF (List.replicate 512 0))
  ne : vN.ownBlock = none ∨ vN.ownBlock ≠ vF.ownBlock
  hd : Row w bd 4 (List.replicate n (.bool false))
theorem MidR.below_ {T : TypeId} {w0 w : World} {g bd n jN jF : Nat} {cN cF vN vF : Value} (h : MidR T w0 w g bd n jN jF cN cF vN vF) {w1 : World} (hb : Below w.heap.size w w1) : MidR T w0 w1 g bd n jN jF cN cF vN vF := by
  obtain ⟨l, e1, e2, e3⟩ := h.rN
  obtain ⟨l', e1', e2', e3'⟩ := h.rF
  have own : ∀ (v : Value) (m : Nat) (xs : List Value), w.ownsRow w0.heap.size 27 1 v m xs → w1.ownsRow w0.heap.size 27 1 v m xs := fun v m xs ho => by
    refine ⟨ho.1, ?_⟩
    rcases ho.2 with e | ⟨q, cap, cur, e, e1, e2, r⟩
    · exact .inl e
    · exact .inr ⟨q, cap, cur, e, e1, blk_below e2 hb, r⟩
  exact ⟨below_step h.below hb, h.g0, blk_below h.hg hb, ⟨l, e1, own _ _ _ e2, e3.same fun q cs e => hb.block q (blk_lt e)⟩, ⟨l', e1', own _ _ _ e2', e3'.same fun q cs e => hb.block q (blk_lt e)⟩, h.ne, h.hd.same (hb.block _ h.hd.lt)⟩
theorem MidR.alloc {T : TypeId} {w0 w : World} {g bd n jN jF : Nat} {cN cF vN vF : Value} (h : MidR T w0 w g bd n jN jF cN cF vN vF) (o : Obj) : MidR T w0 (w.alloc o) g bd n jN jF cN cF vN vF := h.below_ ((Below.refl _ _).alloc (Nat.le_refl _) o)
theorem MidR.drew {T : TypeId} {w0 w : World} {g bd n jN jF : Nat} {cN cF vN vF : Value} (h : MidR T w0 w g bd n jN jF cN cF vN vF) : MidR T w0 w.drew g bd n jN jF cN cF vN vF := h.below_ (Below.drew (Below.refl _ _))
theorem MidR.c0 {T : TypeId} {w0 w : World} {g bd n jN jF : Nat} {cN cF vN vF : Value} (h : MidR T w0 w g bd n jN jF cN cF vN vF) : w.cell? ⟨g, 0, none⟩ = some cN := (blk_cell h.hg 0).trans rfl
theorem MidR.c1 {T : TypeId} {w0 w : World} {g bd n jN jF : Nat} {cN cF vN vF : Value} (h : MidR T w0 w g bd n jN jF cN cF vN vF) : w.cell? ⟨g, 1, none⟩ = some cF := (blk_cell h.hg 1).trans rfl
theorem Byts.snoc {w : World} {vs : List Value} {j : Nat} {z : Value} (h : Byts (fun _ => True) w vs (List.replicate j (List.replicate 512 0))) (hl : vs.length = j) (hz : Byt (fun _ => True) w z (List.replicate 512 0)) : Byts (fun _ => True) w (vs ++ [z]) (List.replicate (j + 1) (List.replicate 512 0)) := by
  refine ⟨by rw [List.length_append, hl, List.length_replicate]; rfl, fun i v m hv hm => ?_⟩
  rw [List.getElem?_replicate] at hm
  split at hm
  · obtain rfl := Option.some.inj hm
    by_cases hi : i < j
    · rw [List.getElem?_append_left (by rw [hl]; exact hi)] at hv
      exact h.2 i v _ hv (by rw [List.getElem?_replicate, if_pos hi])
    · obtain rfl : i = j := by omega
      rw [List.getElem?_append_right (by rw [hl]; exact Nat.le_refl _), hl, Nat.sub_self] at hv
      obtain rfl := Option.some.inj hv
      exact hz
  · cases hm
theorem MidR.appN {T : TypeId} {w0 w : World} {g bd n jN jF : Nat} {cN cF vN vF : Value} (h : MidR T w0 w g bd n jN jF cN cF vN vF) (hT : T ≠ 27) {w1 : World} {g1 m cap : Nat} {l : List Value} {z : Value} (hl : l.length = jN) (hb : Byts (fun _ => True) w l (List.replicate jN (List.replicate 512 0))) (hz : Byt (fun _ => True) w z (List.replicate 512 0)) (hm : m = jN + 1) (ho : w1.ownsRow w0.heap.size 27 1 (.slice (some ⟨g1, 0, none⟩) m cap) m (l ++ [z])) (hg : w.grownBy w1 vN.ownBlock) (ha : vN.ownBlock = some g1 ∨ g1 = w.heap.size) : MidR T w0 w1 g bd n (jN + 1) jF cN cF (.slice (some ⟨g1, 0, none⟩) m cap) vF := by
  obtain ⟨lN, _, rN, _⟩ := h.rN
  obtain ⟨lF, q1, rF, q3⟩ := h.rF
  have q8 : ∀ (q : Nat) (cs : Array Value), w.heap[q]? = some (.cells cs 5 (0, 0)) → w1.heap[q]? = w.heap[q]? := fun q cs e => hg.block q (blk_lt e) (own_ne rN e (by decide))
  refine ⟨h.below.grown hg h.below.size (fun k hk => (rN.lt k hk).1), h.g0, blk_grown h.hg hg (own_ne rN h.hg (Ne.symm hT)), ⟨l ++ [z], by rw [List.length_append, hl]; rfl, by subst hm; exact ho, (hb.snoc hl hz).same q8⟩, ⟨lF, q1, rF.kept hg (h.ne.elim (fun e => by rw [e]; cases vF.ownBlock <;> simp) fun e => .inr (Ne.symm e)), q3.same q8⟩, .inr ?_, h.hd.same (hg.block _ h.hd.lt (own_ne rN h.hd.choose_spec.1 (by decide)))⟩
  show some g1 ≠ vF.ownBlock
  rcases ha with e | e
  · rw [← e]; exact h.ne.resolve_left (by rw [e]; simp)
  · intro e2
    have := (rF.lt g1 e2.symm).2
    omega
theorem MidR.appF {T : TypeId} {w0 w : World} {g bd n jN jF : Nat} {cN cF vN vF : Value} (h : MidR T w0 w g bd n jN jF cN cF vN vF) (hT : T ≠ 27) {w1 : World} {g1 m cap : Nat} {l : List Value} {z : Value} (hl : l.length = jF) (hb : Byts (fun _ => True) w l (List.replicate jF (List.replicate 512 0))) (hz : Byt (fun _ => True) w z (List.replicate 512 0)) (hm : m = jF + 1) (ho : w1.ownsRow w0.heap.size 27 1 (.slice (some ⟨g1, 0, none⟩) m cap) m (l ++ [z])) (hg : w.grownBy w1 vF.ownBlock) (ha : vF.ownBlock = some g1 ∨ g1 = w.heap.size) : MidR T w0 w1 g bd n jN (jF + 1) cN cF vN (.slice (some ⟨g1, 0, none⟩) m cap) := by
  obtain ⟨lN, q1, rN, q3⟩ := h.rN
  obtain ⟨lF, _, rF, _⟩ := h.rF
  have q8 : ∀ (q : Nat) (cs : Array Value), w.heap[q]? = some (.cells cs 5 (0, 0)) → w1.heap[q]? = w.heap[q]? := fun q cs e => hg.block q (blk_lt e) (own_ne rF e (by decide))
  have hne2 : vN.ownBlock = none ∨ vN.ownBlock ≠ some g1 := by
    rcases h.ne with e | e
    · exact .inl e
    · rcases ha with e2 | e2
      · exact .inr (by rw [← e2]; exact e)
      · refine .inr fun e3 => ?_
        have := (rN.lt g1 e3).2
        omega
  exact ⟨h.below.grown hg h.below.size (fun k hk => (rF.lt k hk).1), h.g0, blk_grown h.hg hg (own_ne rF h.hg (Ne.symm hT)), ⟨lN, q1, rN.kept hg h.ne, q3.same q8⟩, ⟨l ++ [z], by rw [List.length_append, hl]; rfl, by subst hm; exact ho, (hb.snoc hl hz).same q8⟩, hne2, h.hd.same (hg.block _ h.hd.lt (own_ne rF h.hd.choose_spec.1 (by decide)))⟩
theorem MidR.put {T : TypeId} {w0 w : World} {g bd n jN jF : Nat} {cN cF vN vF : Value} (h : MidR T w0 w g bd n jN jF cN cF vN vF) (hT : T ≠ 27) (hT2 : T ≠ 4) (hT3 : T ≠ 5) (i : Nat) (v c0 c1 : Value) (he : (#[cN, cF, .slice (some ⟨bd, 0, none⟩) n n] : Array Value).setIfInBounds i v = #[c0, c1, .slice (some ⟨bd, 0, none⟩) n n]) : MidR T w0 (w.setCell ⟨g, i, none⟩ v) g bd n jN jF c0 c1 vN vF := by
  have hb : Keeps (fun k => k = g) w (w.setCell ⟨g, i, none⟩ v) := Keeps.set (fun k => k = g) w g i v rfl
  have q8 : ∀ (q : Nat) (cs : Array Value), w.heap[q]? = some (.cells cs 5 (0, 0)) → (w.setCell ⟨g, i, none⟩ v).heap[q]? = w.heap[q]? := fun q cs e => hb.far q (blk_lt e) (fun e2 => by rw [e2] at e; exact blk_ne h.hg e hT3 rfl)
  have own : ∀ (v' : Value) (m : Nat) (xs : List Value), w.ownsRow w0.heap.size 27 1 v' m xs → (w.setCell ⟨g, i, none⟩ v).ownsRow w0.heap.size 27 1 v' m xs := fun v' m xs ho => by
    refine ⟨ho.1, ?_⟩
    rcases ho.2 with e | ⟨q, cap, cur, e, e1, e2, r⟩
    · exact .inl e
    · exact .inr ⟨q, cap, cur, e, e1, (hb.far q (blk_lt e2) (fun e3 => by rw [e3] at e2; exact blk_ne h.hg e2 hT rfl)).trans e2, r⟩
  obtain ⟨l, e1, e2, e3⟩ := h.rN
  obtain ⟨l', e1', e2', e3'⟩ := h.rF
  exact ⟨hb.below (fun k hk => by rw [hk]; exact h.g0) h.below.size h.below, h.g0, blk_put h.hg i v he, ⟨l, e1, own _ _ _ e2, e3.same q8⟩, ⟨l', e1', own _ _ _ e2', e3'.same q8⟩, h.ne, h.hd.same (hb.far _ h.hd.lt (fun e => by obtain ⟨cs, ec, _⟩ := h.hd; rw [show bd = g from e] at ec; exact blk_ne h.hg ec hT2 rfl))⟩
theorem MidR.start {T : TypeId} (w : World) {n : Nat} {Z : Array Value} (hZ : Z.toList = List.replicate n (.bool false)) : MidR T w ((w.alloc (.cells Z 4 (0, 0))).alloc (.cells #[.slice none 0 0, .slice none 0 0, .slice (some ⟨w.heap.size, 0, none⟩) n n] T (0, 0))) (w.heap.size + 1) w.heap.size n 0 0 (.slice none 0 0) (.slice none 0 0) (.slice none 0 0) (.slice none 0 0) := by
  have h1 : Below w.heap.size w (w.alloc (.cells Z 4 (0, 0))) := (Below.refl _ _).alloc (Nat.le_refl _) _
  refine ⟨h1.alloc h1.size _, Nat.le_succ _, blk_new2 _ _ _, ⟨[], rfl, World.ownsRow_nil _ _ _ _, ⟨rfl, fun i v l e => by simp at e⟩⟩, ⟨[], rfl, World.ownsRow_nil _ _ _ _, ⟨rfl, fun i v l e => by simp at e⟩⟩, .inl rfl, ?_⟩
  exact Row.of_toList (blk_alloc (blk_new _ _) _) hZ
theorem MidR.done {T : TypeId} {w0 w : World} {bd n : Nat} {vN vF : Value} (h : MidR T w0 w (bd + 1) bd n n n vN vF vN vF) (hbd : bd = w0.heap.size) (h1 : 1 ≤ n) (h2 : n ≤ 256) : ∃ o : Own, o.g = bd + 1 ∧ Dk (fun _ => True) T w o ⟨List.replicate n (List.replicate 512 0), List.replicate n (List.replicate 512 0), List.replicate n false⟩ ∧ (∀ k, o.has k → w0.heap.size ≤ k) := by
  obtain ⟨l, hl, r1, b⟩ := h.rN
  obtain ⟨l', hl', r2, b'⟩ := h.rF
  have hne := h.ne
  obtain ⟨gN, cN, rfl, q1, q2, q3, q4⟩ := Row.of_own r1 (by omega)
  obtain ⟨gF, cF, rfl, p1, p2, p3, p4⟩ := Row.of_own r2 (by omega)
  refine ⟨⟨bd + 1, gN, gF, bd, cN, cF, n⟩, rfl, ⟨by show 0 < (List.replicate n _).length; rw [List.length_replicate]; omega, by show (List.replicate n _).length ≤ 256; rw [List.length_replicate]; omega, rfl, by show (List.replicate n _).length = (List.replicate n _).length; rw [List.length_replicate, List.length_replicate], ?_, ⟨l, q4, b⟩, ⟨l', p4, b'⟩, ?_, ?_⟩, ?_⟩
  · show w.heap[bd + 1]? = some (.cells #[.slice (some ⟨gN, 0, none⟩) (List.replicate n (List.replicate 512 (0 : Int))).length cN, .slice (some ⟨gF, 0, none⟩) (List.replicate n (List.replicate 512 (0 : Int))).length cF, .slice (some ⟨bd, 0, none⟩) (List.replicate n (List.replicate 512 (0 : Int))).length n] T (0, 0)) ∧ (List.replicate n (List.replicate 512 (0 : Int))).length ≤ cN ∧ (List.replicate n (List.replicate 512 (0 : Int))).length ≤ cF ∧ (List.replicate n (List.replicate 512 (0 : Int))).length ≤ n
    rw [List.length_replicate]
    exact ⟨h.hg, q1, p1, Nat.le_refl _⟩
  · show Row w bd 4 ((List.replicate n false).map .bool)
    rw [List.map_replicate]
    exact h.hd
  · show gN ≠ gF
    rcases hne with e | e
    · cases e
    · intro e2; exact e (by rw [e2]; rfl)
  · intro k hk
    have hk : k = bd + 1 ∨ k = gN ∨ k = gF ∨ k = bd := hk
    omega
theorem Byt.zeros {w : World} {Z : Array Value} (hZ : Z.toList = List.replicate 512 (.int .u8 0)) {q : Nat} (hq : w.heap[q]? = some (.cells Z 5 (0, 0))) : Byt (fun _ => True) w (.slice (some ⟨q, 0, none⟩) 512 512) (List.replicate 512 0) := by
  refine ⟨q, 512, trivial, by rw [List.length_replicate], by rw [List.length_replicate]; exact Nat.le_refl _, List.length_replicate, ?_⟩
  refine Row.of_toList hq (hZ.trans ?_)
  rw [List.map_replicate]

end
section
variable {ok ok2 : Nat → Prop}
theorem rd_nat (l : List Int) (i : Nat) (h : i < l.length) : rd l (i : Int) = l[i] := by
  unfold rd
  simp [List.getD_eq_getElem?_getD, h]
theorem same_l : ∀ (m k i : Nat) (l l' : List Int), l.length = l'.length → l.length < 1000000 → i + m = l.length → m < k → chatelainelaw0_SameBytes.l0 k l l' (i : Int) = some (decide (l.drop i = l'.drop i))
  | 0, k, i, l, l', h0, h1, h2, h3 => by
    obtain ⟨k, rfl⟩ : ∃ m, k = m + 1 := ⟨k - 1, by omega⟩
    rw [chatelainelaw0_SameBytes.l0, if_neg (by omega), List.drop_eq_nil_of_le (by omega), List.drop_eq_nil_of_le (by omega), decide_eq_true rfl]
  | m + 1, k, i, l, l', h0, h1, h2, h3 => by
    obtain ⟨k, rfl⟩ : ∃ m, k = m + 1 := ⟨k - 1, by omega⟩
    have hw : wrap64 ((i : Int) + 1) = ((i + 1 : Nat) : Int) := by unfold wrap64; omega
    have e1 : l.drop i = l[i] :: l.drop (i + 1) := List.drop_eq_getElem_cons (by omega)
    have e2 : l'.drop i = l'[i] :: l'.drop (i + 1) := List.drop_eq_getElem_cons (by omega)
    rw [chatelainelaw0_SameBytes.l0, if_pos (by omega), if_pos (by omega), if_pos (by omega), rd_nat l i (by omega), rd_nat l' i (by omega), e1, e2]
    by_cases h : l[i] = l'[i]
    · rw [if_pos h, hw, same_l m k (i + 1) l l' h0 h1 (by omega) (by omega)]
      congr 1
      rw [decide_eq_decide]
      constructor
      · intro hh; rw [h, hh]
      · intro hh; injection hh
    · rw [if_neg h]
      congr 1
      symm
      rw [decide_eq_false_iff_not]
      intro hh
      injection hh with hh1 _
      exact h hh1
theorem same_dec (k : Nat) (l l' : List Int) (h1 : l.length < 1000000) (h3 : l.length < k) : chatelainelaw0_SameBytes.f k l l' = some (decide (l = l')) := by
  unfold chatelainelaw0_SameBytes.f
  by_cases h : (l.length : Int) = (l'.length : Int)
  · rw [if_pos h]
    exact same_l l.length k 0 l l' (by omega) h1 (by omega) h3
  · rw [if_neg h, decide_eq_false (by rintro rfl; exact h rfl)]
theorem clone_f (l : List Int) (h : l.length < 1000000) : slices_Clone_byte_byte.f l = some l := by
  unfold slices_Clone_byte_byte.f
  rw [Option.bind_some, if_pos (by simp; omega), List.nil_append]
theorem Drawn0.below {w w' : World} (h : Drawn0 w w') : Below w.heap.size w w' := by
  obtain ⟨n, rfl⟩ := h.out
  exact pw_below_drewN (Below.refl _ _) n
theorem Sb.calls (A : Option Addr) (c : Nat) (l : List Int) (A' : Option Addr) (c' : Nat) (l' : List Int) (w : World) (h1 : Kd.C (Kd.int .u8) w A l.length l) (hc : l.length ≤ c) (h2 : Kd.C (Kd.int .u8) w A' l'.length l') (hc' : l'.length ≤ c') (hl : l.length < 100000) : Calls Try.prog 16 #[.slice A l.length c, .slice A' l'.length c'] w fun e w' => e = .returned (.bool (decide (l = l'))) ∧ Below w.heap.size w w' :=
  (chatelainelaw0_SameBytes.calls 200000 A c l A' c' l' _ w h1 hc h2 hc' (same_dec 200000 l l' (by omega) (by omega))).mono fun e w' ⟨q1, q2⟩ => ⟨q1, q2.below⟩
/-- An error by its number. -/
def ErrV (w : World) (v : Value) (c : Int) : Prop := c = 0 ∧ v = .nilIface ∨ c ≠ 0 ∧ FaultAt w v c
theorem ErrV.below {w w' : World} {v : Value} {c : Int} (h : ErrV w v c) (hb : Below w.heap.size w w') : ErrV w' v c := h.imp id fun h => ⟨h.1, h.2.below hb⟩
/-- What a call that writes makes of a disk, and its error's number. -/
def DS.write (s : DS) (i : Int) (l : List Int) : DS × Int :=
  if i < 0 ∨ (s.now.length : Int) ≤ i then (s, 2) else if l.length ≠ 512 then (s, 3) else (⟨s.now.set i.toNat l, s.firm, s.dirty.set i.toNat true⟩, 0)
theorem Dk_Write.calls (o : Own) (s : DS) (w : World) (h : Dk ok 52 w o s) (A : Option Addr) (c : Nat) (l : List Int) (hC : Kd.C (Kd.int .u8) w A l.length l) (hc : l.length ≤ c) (i : Int) (hok : ∀ k, w.heap.size ≤ k → ok k) :
    Calls Try.prog 11 #[.pointer (some ⟨o.g, 0, none⟩), .int .i64 i, .slice A l.length c] w fun e w' => ∃ v, e = .returned v ∧ ErrV w' v (s.write i l).2 ∧ Dk ok 52 w' o (s.write i l).1 ∧ Keeps o.has w w' := by
  unfold DS.write
  by_cases h1 : i < 0 ∨ (s.now.length : Int) ≤ i
  · rw [if_pos h1]
    exact (Dk_WriteBad.calls o s w h A l.length c i h1).mono fun e w' ⟨v, q1, q2, q3⟩ => ⟨v, q1, .inr ⟨show (2 : Int) ≠ 0 by decide, q2⟩, h.below q3, Keeps.of_below q3⟩
  · rw [if_neg h1]
    obtain ⟨m, rfl⟩ := Int.eq_ofNat_of_zero_le (show 0 ≤ i by omega)
    have hm : m < s.now.length := by omega
    by_cases h2 : l.length ≠ 512
    · rw [if_pos h2]
      exact (Dk_WriteSize.calls o s w h A l.length c m hm h2).mono fun e w' ⟨v, q1, q2, q3⟩ => ⟨v, q1, .inr ⟨show (3 : Int) ≠ 0 by decide, q2⟩, h.below q3, Keeps.of_below q3⟩
    · rw [if_neg h2, Int.toNat_natCast]
      have h3 : l.length = 512 := by omega
      exact (Dk_WriteOk.calls o s w h A c l hC hc h3 (clone_f l (by omega)) m hm hok).mono fun e w' ⟨q1, q2, q3⟩ => ⟨_, q1, .inl ⟨rfl, rfl⟩, q2, q3⟩
theorem dix_mem (D : List Bool) : ∀ n i, i ∈ dix D n ↔ i < n ∧ D[i]? = some true
  | 0, i => by simp [dix]
  | n + 1, i => by
    unfold dix
    have ih := dix_mem D n i
    split
    · rename_i h
      rw [List.mem_append, List.mem_singleton, ih]
      constructor
      · rintro (⟨h1, h2⟩ | rfl)
        · exact ⟨by omega, h2⟩
        · exact ⟨by omega, h⟩
      · rintro ⟨h1, h2⟩
        by_cases hi : i = n
        · exact .inr hi
        · exact .inl ⟨by omega, h2⟩
    · rename_i h
      rw [ih]
      constructor
      · rintro ⟨h1, h2⟩; exact ⟨by omega, h2⟩
      · rintro ⟨h1, h2⟩
        refine ⟨?_, h2⟩
        by_cases hi : i = n
        · subst hi; exact absurd h2 h
        · omega
theorem dix_nodup (D : List Bool) : ∀ n, (dix D n).Nodup
  | 0 => List.nodup_nil
  | n + 1 => by
    unfold dix
    split
    · rw [List.nodup_append]
      refine ⟨dix_nodup D n, by simp, fun a ha b hb => ?_⟩
      rw [List.mem_singleton.mp hb]
      have := dix_lt D n a ha
      omega
    · exact dix_nodup D n
/-- Lengths that fit. -/
structure DS.Fits (s : DS) : Prop where
  nf : s.firm.length = s.now.length
  nd : s.dirty.length = s.now.length
theorem Dk.fits {T : TypeId} {w : World} {o : Own} {s : DS} (h : Dk ok T w o s) : s.Fits := ⟨h.nf, h.nd⟩
theorem DS.Fits.keep {s : DS} (h : s.Fits) (i : Nat) : (s.keep i).Fits := ⟨List.length_set.trans h.nf, h.nd⟩
theorem DS.Fits.back {s : DS} (h : s.Fits) (i : Nat) : (s.back i).Fits := ⟨h.nf.trans List.length_set.symm, by show (s.dirty.set i false).length = (s.now.set i _).length; rw [List.length_set, List.length_set]; exact h.nd⟩
theorem get_set_ne {α : Type} (l : List α) (i j : Nat) (a : α) (h : i ≠ j) : (l.set i a)[j]? = l[j]? := by rw [List.getElem?_set, if_neg h]
theorem get_set_eq {α : Type} (l : List α) (i : Nat) (a : α) (h : i < l.length) : (l.set i a)[i]? = some a := by rw [List.getElem?_set, if_pos rfl, if_pos h]
theorem get_d {α : Type} (l : List α) (d : α) (i : Nat) (h : i < l.length) : l[i]? = some (l.getD i d) := by rw [List.getElem?_eq_getElem h, List.getD_eq_getElem?_getD, List.getElem?_eq_getElem h]; rfl
/-- What a crash leaves: elsewhere all stays; where it was dirty it is as it lasts. -/
structure Crashed (X : List Nat) (s r : DS) : Prop where
  len : r.now.length = s.now.length
  fits : r.Fits
  far : ∀ i, i ∉ X → r.now[i]? = s.now[i]? ∧ r.firm[i]? = s.firm[i]? ∧ r.dirty[i]? = s.dirty[i]?
  here : ∀ i, i ∈ X → r.now[i]? = r.firm[i]? ∧ r.dirty[i]? = some false
theorem crashed (keep : List Bool) : ∀ (X : List Nat) (k : Nat) (s : DS) (n : Nat), X.Nodup → (∀ i, i ∈ X → i < s.now.length) → s.Fits → Crashed X s (crashL keep X k s n).1
  | [], k, s, n, _, _, hf => ⟨rfl, hf, fun i _ => ⟨rfl, rfl, rfl⟩, fun i h => by cases h⟩
  | x :: X, k, s, n, hX, hlt, hf => by
    have hx : x < s.now.length := hlt x (List.mem_cons_self ..)
    obtain ⟨hxX, hX'⟩ := List.nodup_cons.mp hX
    have hxf : x < s.firm.length := by rw [hf.nf]; exact hx
    have hxd : x < s.dirty.length := by rw [hf.nd]; exact hx
    rw [crashL]
    split
    · have ih := crashed keep X (k + 1) ((s.keep x).back x) (n + 1) hX' (fun i hi => by rw [DS.back_len]; exact hlt i (List.mem_cons_of_mem _ hi)) ((hf.keep x).back x)
      have e1 := ih.far x hxX
      refine ⟨ih.len.trans (DS.back_len _ _), ih.fits, fun i hi => ?_, fun i hi => ?_⟩
      · have hix : x ≠ i := fun e => hi (e ▸ List.mem_cons_self ..)
        obtain ⟨a1, a2, a3⟩ := ih.far i (fun h => hi (List.mem_cons_of_mem _ h))
        refine ⟨a1.trans (get_set_ne _ _ _ _ hix), a2.trans (get_set_ne _ _ _ _ hix), a3.trans (get_set_ne _ _ _ _ hix)⟩
      · rcases List.mem_cons.mp hi with rfl | hi
        · rw [e1.1, e1.2.1, e1.2.2]
          show (s.now.set i ((s.firm.set i (s.now.getD i [])).getD i []))[i]? = (s.firm.set i (s.now.getD i []))[i]? ∧ (s.dirty.set i false)[i]? = some false
          rw [get_set_eq _ _ _ hx, get_set_eq _ _ _ hxf, get_set_eq _ _ _ hxd, List.getD_eq_getElem?_getD, get_set_eq _ _ _ hxf]
          exact ⟨rfl, rfl⟩
        · exact ih.here i hi
    · have ih := crashed keep X (k + 1) (s.back x) n hX' (fun i hi => by rw [DS.back_len]; exact hlt i (List.mem_cons_of_mem _ hi)) (hf.back x)
      have e1 := ih.far x hxX
      refine ⟨ih.len.trans (DS.back_len _ _), ih.fits, fun i hi => ?_, fun i hi => ?_⟩
      · have hix : x ≠ i := fun e => hi (e ▸ List.mem_cons_self ..)
        obtain ⟨a1, a2, a3⟩ := ih.far i (fun h => hi (List.mem_cons_of_mem _ h))
        exact ⟨a1.trans (get_set_ne _ _ _ _ hix), a2, a3.trans (get_set_ne _ _ _ _ hix)⟩
      · rcases List.mem_cons.mp hi with rfl | hi
        · rw [e1.1, e1.2.1, e1.2.2]
          show (s.now.set i (s.firm.getD i []))[i]? = s.firm[i]? ∧ (s.dirty.set i false)[i]? = some false
          rw [get_set_eq _ _ _ hx, get_set_eq _ _ _ hxd, get_d _ [] _ hxf]
          exact ⟨rfl, rfl⟩
        · exact ih.here i hi
/-- Both ways keep the same. -/
theorem crash_keep (keep : List Bool) : ∀ (X : List Nat) (k : Nat) (s t : DS) (n : Nat), X.Nodup → s.firm = t.firm → (∀ i, i ∈ X → s.now.getD i [] = t.now.getD i []) → (crashL keep X k s n).1.firm = (keepL keep X k t n).1.firm ∧ (crashL keep X k s n).2 = (keepL keep X k t n).2
  | [], k, s, t, n, _, h, _ => ⟨h, rfl⟩
  | x :: X, k, s, t, n, hX, h, hn => by
    obtain ⟨hxX, hX'⟩ := List.nodup_cons.mp hX
    have e0 := hn x (List.mem_cons_self ..)
    rw [crashL, keepL]
    have far : ∀ (l : List (List Int)) (v : List Int) (i : Nat), i ∈ X → (l.set x v).getD i [] = l.getD i [] := fun l v i hi => by
      have hxi : x ≠ i := by rintro rfl; exact hxX hi
      rw [List.getD_eq_getElem?_getD, List.getD_eq_getElem?_getD, get_set_ne _ _ _ _ hxi]
    split
    · refine crash_keep keep X (k + 1) _ _ (n + 1) hX' ?_ (fun i hi => ?_)
      · show s.firm.set x (s.now.getD x []) = t.firm.set x (t.now.getD x [])
        rw [h, e0]
      · show (s.now.set x _).getD i [] = t.now.getD i []
        rw [far _ _ i hi]
        exact hn i (List.mem_cons_of_mem _ hi)
    · refine crash_keep keep X (k + 1) _ _ n hX' h (fun i hi => ?_)
      show (s.now.set x _).getD i [] = t.now.getD i []
      rw [far _ _ i hi]
      exact hn i (List.mem_cons_of_mem _ hi)
/-- What is not dirty is as it lasts. -/
def DS.Clean (s : DS) : Prop := ∀ i : Nat, s.dirty[i]? = some false → s.now[i]? = s.firm[i]?
theorem DS.ext' {a b : DS} (h1 : a.now = b.now) (h2 : a.firm = b.firm) (h3 : a.dirty = b.dirty) : a = b := by
  cases a; cases b; simp only at h1 h2 h3; subst h1 h2 h3; rfl
/-- The reference's crash is the same. -/
theorem crash_same (s : DS) (keep : List Bool) (hf : s.Fits) (hc : s.Clean) : (⟨(keepL keep (dix s.dirty s.now.length) 0 s 0).1.firm, (keepL keep (dix s.dirty s.now.length) 0 s 0).1.firm, List.replicate s.now.length false⟩ : DS) = (crashL keep (dix s.dirty s.now.length) 0 s 0).1 ∧ (keepL keep (dix s.dirty s.now.length) 0 s 0).2 = (crashL keep (dix s.dirty s.now.length) 0 s 0).2 := by
  have h1 := crash_keep keep (dix s.dirty s.now.length) 0 s s 0 (dix_nodup _ _) rfl (fun _ _ => rfl)
  have h2 := crashed keep (dix s.dirty s.now.length) 0 s 0 (dix_nodup _ _) (dix_lt _ _) hf
  refine ⟨?_, h1.2.symm⟩
  rw [← h1.1]
  generalize (crashL keep (dix s.dirty s.now.length) 0 s 0).1 = r at *
  have hd : ∀ i, i ∉ dix s.dirty s.now.length → i < s.now.length → s.dirty[i]? = some false := fun i hi hlt => by
    have hl : i < s.dirty.length := by rw [hf.nd]; exact hlt
    have := mt (dix_mem s.dirty s.now.length i).mpr hi
    rw [List.getElem?_eq_getElem hl] at this ⊢
    cases hb : s.dirty[i] with
    | true => rw [hb] at this; exact absurd ⟨hlt, rfl⟩ this
    | false => rfl
  refine DS.ext' ?_ rfl ?_
  · show r.firm = r.now
    refine List.ext_getElem? fun i => ?_
    by_cases hi : i ∈ dix s.dirty s.now.length
    · exact (h2.here i hi).1.symm
    · obtain ⟨a1, a2, _⟩ := h2.far i hi
      rw [a1, a2]
      by_cases hlt : i < s.now.length
      · exact (hc i (hd i hi hlt)).symm
      · rw [List.getElem?_eq_none (by rw [hf.nf]; omega), List.getElem?_eq_none (by omega)]
  · show List.replicate s.now.length false = r.dirty
    refine List.ext_getElem? fun i => ?_
    by_cases hlt : i < s.now.length
    · rw [List.getElem?_replicate, if_pos hlt]
      by_cases hi : i ∈ dix s.dirty s.now.length
      · exact (h2.here i hi).2.symm
      · rw [(h2.far i hi).2.2, hd i hi hlt]
    · rw [List.getElem?_eq_none (by rw [List.length_replicate]; omega), List.getElem?_eq_none (by rw [h2.fits.nd, h2.len]; omega)]
theorem crash_clean (s : DS) (keep : List Bool) (hf : s.Fits) (hc : s.Clean) : (crashL keep (dix s.dirty s.now.length) 0 s 0).1.Clean := by
  intro i _
  rw [← (crash_same s keep hf hc).1]
def DS.crash (s : DS) (keep : List Bool) : DS × Nat := crashL keep (dix s.dirty s.now.length) 0 s 0

end
section
variable {ok ok2 : Nat → Prop}
/-- A disk that was made since w0, and nothing else has changed. -/
structure Lv (w0 w : World) (o : Own) (s : DS) : Prop where
  dk : Dk (fun _ => True) 52 w o s
  ge : ∀ k, o.has k → w0.heap.size ≤ k
  bl : Below w0.heap.size w0 w
theorem Lv.step {w0 w w' : World} {o : Own} {s s' : DS} (h : Lv w0 w o s) (hd : Dk (fun _ => True) 52 w' o s') (hk : Keeps o.has w w') : Lv w0 w' o s' := ⟨hd, h.ge, hk.below h.ge h.bl.size h.bl⟩
theorem Lv.far {w0 w w' : World} {o : Own} {s : DS} (h : Lv w0 w o s) (hb : Below w.heap.size w w') : Lv w0 w' o s := ⟨h.dk.below hb, h.ge, below_step h.bl hb⟩
theorem Lv.gc {w0 w : World} {o : Own} {s : DS} (h : Lv w0 w o s) {v : Value} (hg : w0.cell? ⟨0, 0, none⟩ = some v) : w.cell? ⟨0, 0, none⟩ = some v := pw_cell_below h.bl hg
theorem keep_nil (w : World) : Kd.C Kd.bool w none ([] : List Bool).length [] := Kd.C_of_reads (d := false) ⟨rfl, by decide, fun h => absurd h (by decide)⟩
theorem bytes_nil (w : World) : Kd.C (Kd.int .u8) w none ([] : List Int).length [] := Kd.C_of_reads (d := (0 : Int)) ⟨rfl, by decide, fun h => absurd h (by decide)⟩

end
section
variable {ok ok2 : Nat → Prop}
theorem below_undrew {w w' : World} (h : Below w.drew.heap.size w.drew w') : Below w.heap.size w w' := ⟨h.os, h.tape, h.output, h.size, h.block⟩
theorem DS.write_len (s : DS) (i : Int) (l : List Int) : (s.write i l).1.now.length = s.now.length := by
  unfold DS.write; split
  · rfl
  · split
    · rfl
    · exact List.length_set
theorem DS.write_fits {s : DS} (h : s.Fits) (i : Int) (l : List Int) : (s.write i l).1.Fits := by
  unfold DS.write; split
  · exact h
  · split
    · exact h
    · exact ⟨h.nf.trans List.length_set.symm, by show (s.dirty.set _ true).length = (s.now.set _ l).length; rw [List.length_set, List.length_set]; exact h.nd⟩
theorem DS.write_clean {s : DS} (h : s.Fits) (hc : s.Clean) (i : Int) (l : List Int) : (s.write i l).1.Clean := by
  unfold DS.write; split
  · exact hc
  · split
    · exact hc
    · intro j hj
      have hj : (s.dirty.set i.toNat true)[j]? = some false := hj
      by_cases e : i.toNat = j
      · subst e
        by_cases hl : i.toNat < s.dirty.length
        · rw [get_set_eq _ _ _ hl] at hj; cases hj
        · rw [List.getElem?_eq_none (by rw [List.length_set]; omega)] at hj; cases hj
      · rw [get_set_ne _ _ _ _ e] at hj
        show (s.now.set i.toNat l)[j]? = s.firm[j]?
        rw [get_set_ne _ _ _ _ e]
        exact hc j hj
theorem DS.crash_len (s : DS) (keep : List Bool) (h : s.Fits) : (s.crash keep).1.now.length = s.now.length := (crashed keep (dix s.dirty s.now.length) 0 s 0 (dix_nodup _ _) (dix_lt _ _) h).len
theorem DS.crash_fits (s : DS) (keep : List Bool) (h : s.Fits) : (s.crash keep).1.Fits := (crashed keep (dix s.dirty s.now.length) 0 s 0 (dix_nodup _ _) (dix_lt _ _) h).fits
end

end Go.Proofs.Ytkiofhmpeokipaa.PTA
