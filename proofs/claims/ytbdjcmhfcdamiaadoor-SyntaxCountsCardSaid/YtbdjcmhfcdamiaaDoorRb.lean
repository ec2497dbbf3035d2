/- Package syntax's reader: its state in memory, and what its functions let go. -/
import Derived.Test.YtbdjcmhfcdamiaaDoorRa
import Derived.Test.YtbdjcmhfcdamiaaDoorWd
import Derived.WalkSmall
namespace Go.Proofs.YtbdjcmhfcdamiaaDoor
open Go.RowKit

@[go_sem] theorem cell?_wgr_drew2 (w g : World) (b o : Nat) (s : Option Nat) (h : b < w.heap.size) : (wgr none w.drew.drew g).cell? ⟨b, o, s⟩ = w.cell? ⟨b, o, s⟩ := (keeps_wgr w.drew.drew g).cell _ h (by simp)
@[go_sem] theorem cell?_wgr_drew3 (w g : World) (b o : Nat) (s : Option Nat) (h : b < w.heap.size) : (wgr none w.drew.drew.drew g).cell? ⟨b, o, s⟩ = w.cell? ⟨b, o, s⟩ := (keeps_wgr w.drew.drew.drew g).cell _ h (by simp)
/-- A fault, as an interface value; a panic with it. -/
def faultV (e p : Nat) : Value := .iface 85 (.agg #[.int .i64 e, .int .i64 p])
def faults (e p : Nat) : Ending := .panicked [{ v := faultV e p, recovered := false }]

/-- All stays but for two blocks. -/
structure RBut (rb : Nat) (eb : Option Nat) (w w' : World) : Prop where
  os : w'.os = w.os
  tape : w'.tape = w.tape
  output : w'.output = w.output
  size : w.heap.size ≤ w'.heap.size
  block : ∀ k, k < w.heap.size → k ≠ rb → some k ≠ eb → w'.heap[k]? = w.heap[k]?
theorem RBut.refl (rb : Nat) (eb : Option Nat) (w : World) : RBut rb eb w w := ⟨rfl, rfl, rfl, Nat.le_refl _, fun _ _ _ _ => rfl⟩
theorem RBut.of_below {rb : Nat} {eb : Option Nat} {w w' : World} (h : Below w.heap.size w w') : RBut rb eb w w' := ⟨h.os, h.tape, h.output, h.size, fun k hk _ _ => h.block k hk⟩
/-- The later one's second block is the first one's, or a new one. -/
def newOr (w : World) (eb eb' : Option Nat) : Prop := eb' = eb ∨ ∀ g, eb' = some g → w.heap.size ≤ g
theorem newOr.refl (w : World) (eb : Option Nat) : newOr w eb eb := .inl rfl
theorem newOr.ne {w : World} {eb eb' : Option Nat} (h : newOr w eb eb') {k : Nat} (hk : k < w.heap.size) (hne : some k ≠ eb) : some k ≠ eb' := by
  rcases h with rfl | h
  · exact hne
  · intro e; have := h k e.symm; omega
theorem RBut.trans {rb : Nat} {eb eb' : Option Nat} {a b c : World} (h : RBut rb eb a b) (hn : newOr a eb eb') (k : RBut rb eb' b c) : RBut rb eb a c :=
  ⟨k.os.trans h.os, k.tape.trans h.tape, k.output.trans h.output, Nat.le_trans h.size k.size, fun i hi h1 h2 => (k.block i (Nat.lt_of_lt_of_le hi h.size) h1 (hn.ne hi h2)).trans (h.block i hi h1 h2)⟩
theorem newOr.trans {a b : World} {eb eb' eb'' : Option Nat} (h : newOr a eb eb') (hs : a.heap.size ≤ b.heap.size) (k : newOr b eb' eb'') : newOr a eb eb'' := by
  rcases k with rfl | k
  · exact h
  · exact .inr fun g hg => Nat.le_trans hs (k g hg)
theorem RBut.drew {rb : Nat} {eb : Option Nat} {a w : World} (h : RBut rb eb a w) : RBut rb eb a w.drew := ⟨h.os, h.tape, h.output, h.size, h.block⟩
theorem RBut.below {rb : Nat} {eb : Option Nat} {a b c : World} (h : RBut rb eb a b) (k : Below b.heap.size b c) : RBut rb eb a c := h.trans (.inl rfl) (.of_below k)
theorem RBut.store {rb : Nat} {eb : Option Nat} {a b : World} (h : RBut rb eb a b) (o : Nat) (v : Value) : RBut rb eb a (b.setCell ⟨rb, o, none⟩ v) :=
  h.trans (.inl rfl) ⟨rfl, rfl, rfl, by simp [World.setCell], fun k _ h1 _ => Below.heap_setCell _ _ _ _ h1⟩
theorem RBut.alloc {rb : Nat} {eb : Option Nat} {a b : World} (h : RBut rb eb a b) (o : Obj) : RBut rb eb a (b.alloc o) := h.below ((Below.refl _ _).alloc (Nat.le_refl _) _)
theorem RBut.cell {rb : Nat} {eb : Option Nat} {w w' : World} (h : RBut rb eb w w') {p : Addr} (hp : p.block < w.heap.size) (h1 : p.block ≠ rb) (h2 : some p.block ≠ eb) : w'.cell? p = w.cell? p :=
  World.cell?_of_block (w := w) (h.block p.block hp h1 h2)
/-- A row of the call's own stays while its block stays. -/
theorem ownsRow_of_block {w w' : World} {base : Nat} {e : TypeId} {size : Nat} {v : Value} {n : Nat} {xs : List Value} (h : w.ownsRow base e size v n xs) (hb : ∀ g, v.ownBlock = some g → w'.heap[g]? = w.heap[g]?) : w'.ownsRow base e size v n xs := by
  refine ⟨h.1, ?_⟩
  rcases h.2 with hn | ⟨g, cap, cur, rfl, hg, hgg, rest⟩
  · exact .inl hn
  · exact .inr ⟨g, cap, cur, rfl, hg, (hb g rfl).trans hgg, rest⟩
theorem ownsRow_but {rb : Nat} {eb : Option Nat} {w w' : World} {base : Nat} {e : TypeId} {size : Nat} {v : Value} {n : Nat} {xs : List Value} (h : w.ownsRow base e size v n xs) (hb : RBut rb eb w w') (hr : rb < base) (hne : ∀ g, v.ownBlock = some g → some g ≠ eb) : w'.ownsRow base e size v n xs :=
  ownsRow_of_block h fun g hg => hb.block g (h.lt g hg).2 (by have := (h.lt g hg).1; omega) (hne g hg)

/-- What a special byte begins, as a function's value. -/
def beginF (ere : Bool) (b : Nat) : Option FuncId :=
  if b = 46 then some 70
  else if b = 91 then some 71
  else if b = 92 then some 72
  else if b = 94 then some 73
  else if b = 36 then some 74
  else if ere && b == 40 then some 75
  else none
def beginV (rb : Nat) (ere : Bool) (b : Nat) : Value :=
  match beginF ere b with
  | none => .nilFunc
  | some f => .func (.func f) #[.pointer (some ⟨rb, 0, none⟩)] #[]

/-- The reader's block and what hangs on it: 'k' more groups may be open. -/
structure RdS (w : World) (rb : Nat) (ere : Bool) (mb mo cap : Nat) (L : List Mk) (s : Rst) (k : Nat) (ev : Value) : Prop where
  lt : rb < w.heap.size
  c0 : w.cell? ⟨rb, 0, none⟩ = some (.bool ere)
  c1 : w.cell? ⟨rb, 1, none⟩ = some (.slice (some ⟨mb, mo, none⟩) L.length cap)
  c2 : w.cell? ⟨rb, 2, none⟩ = some (.int .i64 s.i)
  c3 : w.cell? ⟨rb, 3, none⟩ = some ev
  c4 : w.cell? ⟨rb, 4, none⟩ = some (.int .i64 (64 - k : Nat))
  tb : ∀ b, b < 256 → w.cell? ⟨rb, 5 + b, none⟩ = some (beginV rb ere b)
  fz : ∀ o, w.frozen? ⟨rb, o, none⟩ = false
  own : w.ownsRow (rb + 1) 4 1 ev s.ended.length (s.ended.map .bool)
  m : MkAt w mb mo L
  mlt : mb < rb
  at_ : s.i ≤ L.length
  el : s.ended.length ≤ 255
  kl : k ≤ 64

section
variable {w w' : World} {rb : Nat} {ere : Bool} {mb mo cap : Nat} {L : List Mk} {s : Rst} {k : Nat} {ev : Value}
theorem RdS.v (h : RdS w rb ere mb mo cap L s k ev) : RdV w rb ere mb mo cap L s.i :=
  ⟨h.lt, h.m.lt, h.m.len, h.at_, h.c0, h.c1, h.c2, h.m.b, h.m.p⟩
theorem RdS.block (h : RdS w rb ere mb mo cap L s k ev) (hb : ∀ g, ev.ownBlock = some g → w'.heap[g]? = w.heap[g]?) (hr : w'.heap[rb]? = w.heap[rb]?) (hm : w'.heap[mb]? = w.heap[mb]?) (hs : w.heap.size ≤ w'.heap.size) : RdS w' rb ere mb mo cap L s k ev where
  lt := Nat.lt_of_lt_of_le h.lt hs
  c0 := (World.cell?_of_block (w := w) (a := ⟨rb, 0, none⟩) hr).trans h.c0
  c1 := (World.cell?_of_block (w := w) (a := ⟨rb, 1, none⟩) hr).trans h.c1
  c2 := (World.cell?_of_block (w := w) (a := ⟨rb, 2, none⟩) hr).trans h.c2
  c3 := (World.cell?_of_block (w := w) (a := ⟨rb, 3, none⟩) hr).trans h.c3
  c4 := (World.cell?_of_block (w := w) (a := ⟨rb, 4, none⟩) hr).trans h.c4
  tb := fun b hb => (World.cell?_of_block (w := w) (a := ⟨rb, 5 + b, none⟩) hr).trans (h.tb b hb)
  fz := fun o => (World.frozen?_of_block (w := w) (a := ⟨rb, o, none⟩) hr).trans (h.fz o)
  own := ownsRow_of_block h.own hb
  m := ⟨Nat.lt_of_lt_of_le h.m.lt hs, h.m.len, fun i hi => (World.cell?_of_block (w := w) (a := ⟨mb, mo + i * 2, none⟩) hm).trans (h.m.b i hi), fun i hi => (World.cell?_of_block (w := w) (a := ⟨mb, mo + i * 2 + 1, none⟩) hm).trans (h.m.p i hi), h.m.u⟩
  mlt := h.mlt
  at_ := h.at_
  el := h.el
  kl := h.kl
theorem RdS.below (h : RdS w rb ere mb mo cap L s k ev) (hb : Below w.heap.size w w') : RdS w' rb ere mb mo cap L s k ev :=
  h.block (fun g hg => hb.block g (h.own.lt g hg).2) (hb.block rb h.lt) (hb.block mb h.m.lt) hb.size
theorem RdS.drew (h : RdS w rb ere mb mo cap L s k ev) : RdS w.drew rb ere mb mo cap L s k ev := h.below (Below.refl _ _).drew
theorem RdS.alloc (h : RdS w rb ere mb mo cap L s k ev) (o : Obj) : RdS (w.alloc o) rb ere mb mo cap L s k ev := h.below ((Below.refl _ _).alloc (Nat.le_refl _) _)
theorem cell?_setCell_ne (w : World) (b o p : Nat) (v : Value) (h : p ≠ o) : (w.setCell ⟨b, o, none⟩ v).cell? ⟨b, p, none⟩ = w.cell? ⟨b, p, none⟩ :=
  World.cell?_setCell_other _ _ _ _ (by simp only [ne_eq, Addr.mk.injEq, not_and]; omega)
theorem MkAt.store (h : MkAt w mb mo L) {b : Nat} (hb : mb < b) (o : Nat) (v : Value) : MkAt (w.setCell ⟨b, o, none⟩ v) mb mo L :=
  ⟨by simpa [World.setCell] using h.lt, h.len, fun i hi => (World.cell?_setCell_other _ _ _ _ (by simp only [ne_eq, Addr.mk.injEq, not_and]; omega)).trans (h.b i hi), fun i hi => (World.cell?_setCell_other _ _ _ _ (by simp only [ne_eq, Addr.mk.injEq, not_and]; omega)).trans (h.p i hi), h.u⟩
theorem frozen_store (w : World) (a p : Addr) (v : Value) (h : w.frozen? p = false) : (w.setCell a v).frozen? p = false := by
  rw [World.frozen?_setCell]; exact h
theorem RdS.setAt (h : RdS w rb ere mb mo cap L s k ev) {j : Nat} (hj : j ≤ L.length) : RdS (w.setCell ⟨rb, 2, none⟩ (.int .i64 j)) rb ere mb mo cap L ⟨j, s.ended⟩ k ev where
  lt := by simpa [World.setCell] using h.lt
  c0 := (cell?_setCell_ne _ _ _ _ _ (by decide)).trans h.c0
  c1 := (cell?_setCell_ne _ _ _ _ _ (by decide)).trans h.c1
  c2 := World.cell?_setCell_same _ _ _ h.c2
  c3 := (cell?_setCell_ne _ _ _ _ _ (by decide)).trans h.c3
  c4 := (cell?_setCell_ne _ _ _ _ _ (by decide)).trans h.c4
  tb := fun b hb => (cell?_setCell_ne _ _ _ _ _ (by omega)).trans (h.tb b hb)
  fz := fun o => frozen_store _ _ _ _ (h.fz o)
  own := ownsRow_setCell_below h.own (Nat.lt_succ_self _) _
  m := h.m.store h.mlt _ _
  mlt := h.mlt
  at_ := hj
  el := h.el
  kl := h.kl
theorem RdS.setOpen (h : RdS w rb ere mb mo cap L s k ev) {k' : Nat} (hk : k' ≤ 64) : RdS (w.setCell ⟨rb, 4, none⟩ (.int .i64 (64 - k' : Nat))) rb ere mb mo cap L s k' ev where
  lt := by simpa [World.setCell] using h.lt
  c0 := (cell?_setCell_ne _ _ _ _ _ (by decide)).trans h.c0
  c1 := (cell?_setCell_ne _ _ _ _ _ (by decide)).trans h.c1
  c2 := (cell?_setCell_ne _ _ _ _ _ (by decide)).trans h.c2
  c3 := (cell?_setCell_ne _ _ _ _ _ (by decide)).trans h.c3
  c4 := World.cell?_setCell_same _ _ _ h.c4
  tb := fun b hb => (cell?_setCell_ne _ _ _ _ _ (by omega)).trans (h.tb b hb)
  fz := fun o => frozen_store _ _ _ _ (h.fz o)
  own := ownsRow_setCell_below h.own (Nat.lt_succ_self _) _
  m := h.m.store h.mlt _ _
  mlt := h.mlt
  at_ := h.at_
  el := h.el
  kl := hk
theorem RdS.setEnded (h : RdS w rb ere mb mo cap L s k ev) {ev' : Value} {en : List Bool} (ho : w.ownsRow (rb + 1) 4 1 ev' en.length (en.map .bool)) (hl : en.length ≤ 255) : RdS (w.setCell ⟨rb, 3, none⟩ ev') rb ere mb mo cap L ⟨s.i, en⟩ k ev' where
  lt := by simpa [World.setCell] using h.lt
  c0 := (cell?_setCell_ne _ _ _ _ _ (by decide)).trans h.c0
  c1 := (cell?_setCell_ne _ _ _ _ _ (by decide)).trans h.c1
  c2 := (cell?_setCell_ne _ _ _ _ _ (by decide)).trans h.c2
  c3 := World.cell?_setCell_same _ _ _ h.c3
  c4 := (cell?_setCell_ne _ _ _ _ _ (by decide)).trans h.c4
  tb := fun b hb => (cell?_setCell_ne _ _ _ _ _ (by omega)).trans (h.tb b hb)
  fz := fun o => frozen_store _ _ _ _ (h.fz o)
  own := ownsRow_setCell_below ho (Nat.lt_succ_self _) _
  m := h.m.store h.mlt _ _
  mlt := h.mlt
  at_ := h.at_
  el := hl
  kl := h.kl
/-- What a part of the reader does: a fault, or an answer and a new state. -/
def Post {α : Type} (w : World) (rb : Nat) (ere : Bool) (mb mo cap : Nat) (L : List Mk) (k : Nat) (ev : Value) (o : Out α) (R : α → Value → World → Value → Prop) : Ending → World → Prop := fun e w' =>
  RBut rb ev.ownBlock w w' ∧ match o with
  | .no er p => e = faults er p
  | .ok a t => ∃ v ev', e = .returned v ∧ RdS w' rb ere mb mo cap L t k ev' ∧ newOr w ev.ownBlock ev'.ownBlock ∧ R a v w' ev'
/-- A row of nodes of the part's own, beside the groups'. -/
def NdRow (w0 : World) (re : List Nd) (v : Value) (w' : World) (ev' : Value) : Prop :=
  w'.ownsRow w0.heap.size 77 9 v re.length (re.flatMap fun x => (ndCells x).toList) ∧ ∀ g, v.ownBlock = some g → some g ≠ ev'.ownBlock

set_option maxHeartbeats 800000 in
theorem give_any {rv : Value} {e p : Int} (en pn : Nat) (he : e = en) (hp : p = pn) (w : World) :
    Calls Tryd.prog 78 #[rv, .int .i64 e, .int .i64 p] w fun e w' => e = .panicked [{ v := faultV en pn, recovered := false }] ∧ w' = w := by
  subst he
  subst hp
  go_enter Tryd.func78, Tryd.ntmps78
  go_wp2_with fail

  exact ⟨rfl, rfl, rfl⟩
end
end Go.Proofs.YtbdjcmhfcdamiaaDoor
