/- Package syntax's reader: lists of nodes of the code's own; the groups' list goes on. -/
import Derived.Test.YtbdjcmhfcdamiaaDoorRf
import Derived.Test.YtbdjcmhfcdamiaaDoorRu
import Derived.Deep.DeepCutAuto
namespace Go.Proofs.YtbdjcmhfcdamiaaDoor
open Go.RowKit

/-- The cells of nodes. -/
def ndsC (re : List Nd) : List Value := re.flatMap fun x => (ndCells x).toList
theorem ndsC_length : ∀ re : List Nd, (ndsC re).length = re.length * 9
  | [] => rfl
  | x :: l => by
    have h := ndsC_length l
    simp only [ndsC, List.flatMap_cons, List.length_append, List.length_cons] at h ⊢
    rw [h]
    simp only [ndCells, List.length_cons, List.length_nil]
    omega
theorem ndsC_append (a b : List Nd) : ndsC (a ++ b) = ndsC a ++ ndsC b := by simp [ndsC]
theorem ndsC_cons (x : Nd) (b : List Nd) : ndsC (x :: b) = (ndCells x).toList ++ ndsC b := rfl
theorem ndsC_one (re : List Nd) : ∀ u ∈ ndsC re, u.oneCell' = true := by
  intro u hu
  simp only [ndsC, List.mem_flatMap] at hu
  obtain ⟨x, _, hu⟩ := hu
  simp only [ndCells, List.mem_cons, List.not_mem_nil, or_false] at hu
  rcases hu with rfl | rfl | rfl | rfl | rfl | rfl | rfl | rfl | rfl <;> rfl
theorem elNd : ElT Tryd.prog 69 77 9 72 (.agg #[.int .i8 0, .int .u64 0, .int .u64 0, .int .u64 0, .int .u64 0, .int .i64 0, .int .i64 0, .int .i64 0, .int .i64 0]) := ⟨Tryd.underlying69, by kernel_rfl, rfl, by decide⟩
theorem elBo : ElT Tryd.prog 100 4 1 1 (.bool false) := ⟨Tryd.underlying100, by kernel_rfl, rfl, by decide⟩
/-- Nodes of the call's own. -/
def Nds (w : World) (base : Nat) (v : Value) (re : List Nd) : Prop := w.ownsRow base 77 9 v re.length (ndsC re)
theorem Nds.nil (w : World) (base : Nat) : Nds w base (.slice none 0 0) [] := World.ownsRow_nil _ _ _ _
theorem Nds.lit (w : World) (base : Nat) (x : Nd) (hb : base ≤ w.heap.size) : Nds (w.alloc (.cells (ndCells x) 77)) base (.slice (some ⟨w.heap.size, 0, none⟩) 1 1) [x] := by
  have h := World.ownsRow_lit (base := base) (e := 77) (size := 9) w (ndCells x) 1 hb (by decide) (by rw [ndCells_size])
  simpa [Nds, ndsC] using h
theorem Nds.src {w : World} {base : Nat} {v : Value} {re : List Nd} (h : Nds w base v re) : Src w v re.length (ndsC re) := Src.own h
theorem Nds.lt {w : World} {base : Nat} {v : Value} {re : List Nd} (h : Nds w base v re) : ∀ g, v.ownBlock = some g → base ≤ g ∧ g < w.heap.size := World.ownsRow.lt h
theorem Nds.block {w w' : World} {base : Nat} {v : Value} {re : List Nd} (h : Nds w base v re) (hb : ∀ g, v.ownBlock = some g → w'.heap[g]? = w.heap[g]?) : Nds w' base v re := ownsRow_of_block h hb
theorem Nds.below {w w' : World} {base : Nat} {v : Value} {re : List Nd} (h : Nds w base v re) (hb : Below w.heap.size w w') : Nds w' base v re := h.block fun g hg => hb.block g (h.lt g hg).2
theorem Nds.drew {w : World} {base : Nat} {v : Value} {re : List Nd} (h : Nds w base v re) : Nds w.drew base v re := World.ownsRow.drew h
theorem Nds.but {w w' : World} {rb base : Nat} {eb : Option Nat} {v : Value} {re : List Nd} (h : Nds w base v re) (hb : RBut rb eb w w') (hr : rb < base) (hne : ∀ g, v.ownBlock = some g → some g ≠ eb) : Nds w' base v re := ownsRow_but h hb hr hne
theorem Nds.mono {w : World} {base base' : Nat} {v : Value} {re : List Nd} (h : Nds w base v re) (hb : base' ≤ base) : Nds w base' v re := ownsRow_mono h hb
theorem Nds.head {w : World} {base : Nat} {v : Value} {re : List Nd} (h : Nds w base v re) (hn : 0 < re.length) : ∃ g cp, v = .slice (some ⟨g, 0, none⟩) re.length cp ∧ g < w.heap.size ∧ w.cell? ⟨g, 0, none⟩ = some (.int .i8 (re.getD 0 Nd.zero).op) := by
  rcases h.2 with ⟨_, h0⟩ | ⟨g, cp, cur, rfl, hg1, hg2, _⟩
  · omega
  · refine ⟨g, cp, rfl, (Array.getElem?_eq_some_iff.1 hg2).1, ?_⟩
    have hc := World.ownsRow.cellAt h 0 (by omega)
    rw [hc]
    obtain ⟨x, l, rfl⟩ : ∃ x l, re = x :: l := by
      cases re with
      | nil => simp at hn
      | cons x l => exact ⟨x, l, rfl⟩
    rfl
theorem NdRow.nds {w0 w : World} {re : List Nd} {v ev : Value} (h : NdRow w0 re v w ev) : Nds w w0.heap.size v re := h.1
theorem NdRow.store {w0 w : World} {re : List Nd} {v ev : Value} (h : NdRow w0 re v w ev) {b : Nat} (hb : ∀ g, v.ownBlock = some g → g ≠ b) (o : Nat) (u : Value) : NdRow w0 re v (w.setCell ⟨b, o, none⟩ u) ev :=
  ⟨ownsRow_of_block h.1 fun g hg => Below.heap_setCell _ _ _ _ (hb g hg), h.2⟩
theorem NdRow.lt {w0 w : World} {re : List Nd} {v ev : Value} (h : NdRow w0 re v w ev) : ∀ g, v.ownBlock = some g → w0.heap.size ≤ g ∧ g < w.heap.size := World.ownsRow.lt h.1
theorem wpList_nds {w : World} {ops : Array Oper} {rest : List Oper} {o : Oper} {a : Act} {Q : Exit → Act → World → Prop}
    (hgd : o.guard = none) (s x : Operand) (ho : o.op = .call { callee := .builtin .append, args := #[s, x], argTypes := #[69, 69] })
    (base : Nat) {v sv : Value} {xs ys : List Nd} (hs : a.eval s = v) (hown : Nds w base v xs) (hx : a.eval x = sv) (hsrc : Src w sv ys.length (ndsC ys))
    (hb : xs.length + ys.length ≤ 100000) (hbase : base ≤ w.heap.size)
    (h : ∀ v' w', Nds w' base v' (xs ++ ys) → w.grownBy w' v.ownBlock → (v'.ownBlock = v.ownBlock ∨ v'.ownBlock = some w.heap.size) → wpList Tryd.prog ops Q rest (a.put o.dst v') w') :
    wpList Tryd.prog ops Q (o :: rest) a w := by
  refine wpList_app elNd hgd s x ho base hs hown hx hsrc (ndsC_length ys) (ndsC_one ys) (by unfold maxLen; omega) (by omega) hbase ?_
  intro v' w' h1 h2 h3
  refine h v' w' ?_ h2 h3
  rw [Nds, List.length_append, ndsC_append]
  exact h1
section
variable {w w' : World} {rb : Nat} {ere : Bool} {mb mo cap : Nat} {L : List Mk} {s : Rst} {k : Nat} {ev : Value}
theorem RdS.not_rb (h : RdS w rb ere mb mo cap L s k ev) {b : Nat} (hb : b ≤ rb) : some b ≠ ev.ownBlock := fun e => by have := (h.own.lt b e.symm).1; omega
/-- A list of the groups that has grown, stored. -/
theorem RdS.pushEnded (h : RdS w rb ere mb mo cap L s k ev) (hg : w.grownBy w' ev.ownBlock) {ev' : Value} {en : List Bool} (ho : w'.ownsRow (rb + 1) 4 1 ev' en.length (en.map .bool)) (hl : en.length ≤ 255) :
    RdS (w'.setCell ⟨rb, 3, none⟩ ev') rb ere mb mo cap L ⟨s.i, en⟩ k ev' := by
  have hr : w'.heap[rb]? = w.heap[rb]? := hg.block rb h.lt (h.not_rb (Nat.le_refl _))
  have hm : w'.heap[mb]? = w.heap[mb]? := hg.block mb h.m.lt (h.not_rb (Nat.le_of_lt h.mlt))
  have hs := hg.size
  exact {
    lt := by simpa [World.setCell] using Nat.lt_of_lt_of_le h.lt hs
    c0 := (cell?_setCell_ne _ _ _ _ _ (by decide)).trans ((World.cell?_of_block (w := w) (a := ⟨rb, 0, none⟩) hr).trans h.c0)
    c1 := (cell?_setCell_ne _ _ _ _ _ (by decide)).trans ((World.cell?_of_block (w := w) (a := ⟨rb, 1, none⟩) hr).trans h.c1)
    c2 := (cell?_setCell_ne _ _ _ _ _ (by decide)).trans ((World.cell?_of_block (w := w) (a := ⟨rb, 2, none⟩) hr).trans h.c2)
    c3 := World.cell?_setCell_same _ _ _ ((World.cell?_of_block (w := w) (a := ⟨rb, 3, none⟩) hr).trans h.c3)
    c4 := (cell?_setCell_ne _ _ _ _ _ (by decide)).trans ((World.cell?_of_block (w := w) (a := ⟨rb, 4, none⟩) hr).trans h.c4)
    tb := fun b hb => (cell?_setCell_ne _ _ _ _ _ (by omega)).trans ((World.cell?_of_block (w := w) (a := ⟨rb, 5 + b, none⟩) hr).trans (h.tb b hb))
    fz := fun o => frozen_store _ _ _ _ ((World.frozen?_of_block (w := w) (a := ⟨rb, o, none⟩) hr).trans (h.fz o))
    own := ownsRow_setCell_below ho (Nat.lt_succ_self _) _
    m := MkAt.store ⟨Nat.lt_of_lt_of_le h.m.lt hs, h.m.len, fun i hi => (World.cell?_of_block (w := w) (a := ⟨mb, mo + i * 2, none⟩) hm).trans (h.m.b i hi), fun i hi => (World.cell?_of_block (w := w) (a := ⟨mb, mo + i * 2 + 1, none⟩) hm).trans (h.m.p i hi), h.m.u⟩ h.mlt _ _
    mlt := h.mlt
    at_ := h.at_
    el := hl
    kl := h.kl }
/-- The list's own block goes on or is new. -/
theorem newOr.grown {w : World} {eb eb' : Option Nat} (h : eb' = eb ∨ eb' = some w.heap.size) : newOr w eb eb' := by
  rcases h with h | h
  · exact .inl h
  · exact .inr fun g hg => by rw [h] at hg; cases hg; exact Nat.le_refl _
theorem RBut.grown {eb : Option Nat} {w0 : World} (h : RBut rb eb w0 w) {eb' : Option Nat} (hn : newOr w0 eb eb') (hg : w.grownBy w' eb') : RBut rb eb w0 w' :=
  h.trans hn ⟨hg.os, hg.tape, hg.output, hg.size, fun i hi _ h2 => hg.block i hi h2⟩
/-- What the reader has stays while a list beside it grows. -/
theorem RdS.beside (h : RdS w rb ere mb mo cap L s k ev) {row : Option Nat} (hg : w.grownBy w' row) (hr : ∀ g, row = some g → rb < g) (he : ∀ g, ev.ownBlock = some g → some g ≠ row) : RdS w' rb ere mb mo cap L s k ev :=
  h.block (fun g hge => hg.block g (h.evlt g hge) (he g hge)) (hg.block rb h.lt (fun e => by have := hr rb e.symm; omega)) (hg.block mb h.m.lt (fun e => by have := hr mb e.symm; have := h.mlt; omega)) hg.size
theorem RBut.beside {eb : Option Nat} {w0 : World} (h : RBut rb eb w0 w) {row : Option Nat} (hg : w.grownBy w' row) (hr : ∀ g, row = some g → w0.heap.size ≤ g) : RBut rb eb w0 w' :=
  ⟨hg.os.trans h.os, hg.tape.trans h.tape, hg.output.trans h.output, Nat.le_trans h.size hg.size, fun i hi h1 h2 => (hg.block i (Nat.lt_of_lt_of_le hi h.size) (fun e => by have := hr i e.symm; omega)).trans (h.block i hi h1 h2)⟩
/-- A group's end is noted. -/
theorem RdS.note (h : RdS w rb ere mb mo cap L s k ev) {g cp : Nat} (hev : ev = .slice (some ⟨g, 0, none⟩) s.ended.length cp) (j : Nat) : RdS (w.setCell ⟨g, j, none⟩ (.bool true)) rb ere mb mo cap L ⟨s.i, s.ended.set j true⟩ k ev := by
  subst hev
  have ho := h.own
  have hg := (ho.lt g rfl).1
  obtain ⟨h1, h2⟩ := World.ownsRow.stored ho j (.bool true)
  have hr : (w.setCell ⟨g, j, none⟩ (.bool true)).heap[rb]? = w.heap[rb]? := Below.heap_setCell _ _ _ _ (by simp; omega)
  have hm : (w.setCell ⟨g, j, none⟩ (.bool true)).heap[mb]? = w.heap[mb]? := Below.heap_setCell _ _ _ _ (by have := h.mlt; simp; omega)
  exact {
    lt := by simpa [World.setCell] using h.lt
    c0 := (World.cell?_of_block (w := w) (a := ⟨rb, 0, none⟩) hr).trans h.c0
    c1 := (World.cell?_of_block (w := w) (a := ⟨rb, 1, none⟩) hr).trans h.c1
    c2 := (World.cell?_of_block (w := w) (a := ⟨rb, 2, none⟩) hr).trans h.c2
    c3 := (World.cell?_of_block (w := w) (a := ⟨rb, 3, none⟩) hr).trans h.c3
    c4 := (World.cell?_of_block (w := w) (a := ⟨rb, 4, none⟩) hr).trans h.c4
    tb := fun b hb => (World.cell?_of_block (w := w) (a := ⟨rb, 5 + b, none⟩) hr).trans (h.tb b hb)
    fz := fun o => (World.frozen?_of_block (w := w) (a := ⟨rb, o, none⟩) hr).trans (h.fz o)
    own := by simpa [List.map_set] using h1
    m := ⟨by simpa [World.setCell] using h.m.lt, h.m.len, fun i hi => (World.cell?_of_block (w := w) (a := ⟨mb, mo + i * 2, none⟩) hm).trans (h.m.b i hi), fun i hi => (World.cell?_of_block (w := w) (a := ⟨mb, mo + i * 2 + 1, none⟩) hm).trans (h.m.p i hi), h.m.u⟩
    mlt := h.mlt
    at_ := h.at_
    el := by simpa using h.el
    kl := h.kl }
theorem RBut.note {eb eb' : Option Nat} {w0 : World} (h : RBut rb eb w0 w) (hn : newOr w0 eb eb') {g : Nat} (hg : eb' = some g) (j : Nat) (v : Value) : RBut rb eb w0 (w.setCell ⟨g, j, Option.none⟩ v) :=
  h.trans hn ⟨rfl, rfl, rfl, by simp [World.setCell], fun i _ _ h2 => Below.heap_setCell _ _ _ _ (fun e => h2 (by rw [hg, e]))⟩
/-- The list of the groups, written out. -/
theorem RdS.form (h : RdS w rb ere mb mo cap L s k ev) : ∃ oa oc, ev = .slice oa s.ended.length oc := by
  rcases h.own.2 with ⟨h1, h2⟩ | ⟨g, cp, _, h1, _⟩
  · exact ⟨none, 0, by rw [h1, h2]⟩
  · exact ⟨_, _, h1⟩
theorem RdS.row (h : RdS w rb ere mb mo cap L s k ev) (hn : 0 < s.ended.length) : ∃ g cp, ev = .slice (some ⟨g, 0, none⟩) s.ended.length cp ∧ rb < g ∧ g < w.heap.size := by
  rcases h.own.2 with ⟨_, h2⟩ | ⟨g, cp, _, h1, h3, h4, _⟩
  · omega
  · exact ⟨g, cp, h1, h3, (Array.getElem?_eq_some_iff.1 h4).1⟩
end
end Go.Proofs.YtbdjcmhfcdamiaaDoor
