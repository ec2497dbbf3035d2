/- A world of lines (galleyref24.World): its block and the rows that it adds to. No condition. -/
import Derived.Test.YtdinjlglngpecaaGreatDoorSc
import Derived.Deep.Cut
import Derived.Test.YtdinjlglngpecaaGreatDoorSa
namespace Go.Proofs.YtdinjlglngpecaaGreatDoor
open Go.RowKit

/-- The cells that stay: lines, no reader, no output, no disk's faults; mute or not. -/
def fixL (mu : Bool) (oa : Option Addr) (m ca : Nat) : List (Nat × Value) := [(0, .slice oa m ca), (1, .pointer none), (2, .pointer none), (5, .int .i64 0), (7, .int .i64 0), (9, .pointer none), (12, .bool mu), (13, .bool false), (14, .bool false)]
/-- The rows: what was put out; calls; what it was handed; what it lent, and what that was. -/
def rowsL : List Nat := [19, 21, 22, 23, 24]
def rowT (i : Nat) : TypeId × Nat := if i = 19 then (5, 1) else if i = 21 then (320, 3) else (33, 1)
def foot (O : Nat → Option Nat) (k : Nat) : Prop := ∃ i ∈ rowsL, O i = some k
def upd (O : Nat → Option Nat) (i : Nat) (x : Option Nat) (j : Nat) : Option Nat := if j = i then x else O j
structure WlM (w : World) (b base : Nat) (mu : Bool) (oa : Option Addr) (m ca n u s : Nat) (O : Nat → Option Nat) (A : List Nat) : Prop where
  lt : b < w.heap.size
  fx : ∀ p ∈ fixL mu oa m ca, w.cell? ⟨b, p.1, none⟩ = some p.2
  c16 : w.cell? ⟨b, 16, none⟩ = some (.int .i64 (n : Nat))
  c17 : w.cell? ⟨b, 17, none⟩ = some (.int .i64 (u : Nat))
  c18 : ∃ t, w.cell? ⟨b, 18, none⟩ = some (.int .i64 (t : Nat)) ∧ t ≤ s
  rows : ∀ i ∈ rowsL, ∃ v k cs, w.cell? ⟨b, i, none⟩ = some v ∧ w.ownsRow base (rowT i).1 (rowT i).2 v k cs ∧ v.ownBlock = O i ∧ (i = 19 → k = A.length ∧ cs = u8s A) ∧ (i ≠ 19 → k ≤ s)
  dj : ∀ i ∈ rowsL, ∀ j ∈ rowsL, i ≠ j → O i ≠ none → O i ≠ O j
  fz : ∀ o, w.frozen? ⟨b, o, none⟩ = false
section
variable {w w' : World} {b base m ca n u s : Nat} {mu : Bool} {oa : Option Addr} {O : Nat → Option Nat} {A : List Nat}
theorem WlM.c0 (h : WlM w b base mu oa m ca n u s O A) : w.cell? ⟨b, 0, none⟩ = some (.slice oa m ca) := h.fx (0, _) (by simp [fixL])
theorem WlM.c1 (h : WlM w b base mu oa m ca n u s O A) : w.cell? ⟨b, 1, none⟩ = some (.pointer none) := h.fx (1, _) (by simp [fixL])
theorem WlM.c2 (h : WlM w b base mu oa m ca n u s O A) : w.cell? ⟨b, 2, none⟩ = some (.pointer none) := h.fx (2, _) (by simp [fixL])
theorem WlM.c5 (h : WlM w b base mu oa m ca n u s O A) : w.cell? ⟨b, 5, none⟩ = some (.int .i64 0) := h.fx (5, _) (by simp [fixL])
theorem WlM.c7 (h : WlM w b base mu oa m ca n u s O A) : w.cell? ⟨b, 7, none⟩ = some (.int .i64 0) := h.fx (7, _) (by simp [fixL])
theorem WlM.c9 (h : WlM w b base mu oa m ca n u s O A) : w.cell? ⟨b, 9, none⟩ = some (.pointer none) := h.fx (9, _) (by simp [fixL])
theorem WlM.c12 (h : WlM w b base mu oa m ca n u s O A) : w.cell? ⟨b, 12, none⟩ = some (.bool mu) := h.fx (12, _) (by simp [fixL])
theorem WlM.c13 (h : WlM w b base mu oa m ca n u s O A) : w.cell? ⟨b, 13, none⟩ = some (.bool false) := h.fx (13, _) (by simp [fixL])
theorem WlM.c14 (h : WlM w b base mu oa m ca n u s O A) : w.cell? ⟨b, 14, none⟩ = some (.bool false) := h.fx (14, _) (by simp [fixL])
theorem WlM.footLt (h : WlM w b base mu oa m ca n u s O A) {k : Nat} (hk : foot O k) : base ≤ k ∧ k < w.heap.size := by
  obtain ⟨i, hi, e⟩ := hk
  obtain ⟨v, _, _, _, h2, h3, _⟩ := h.rows i hi
  exact h2.lt k (h3.trans e)
/-- What leaves the block and the rows leaves the world. -/
theorem WlM.keep (h : WlM w b base mu oa m ca n u s O A) {S : Nat → Prop} (hk : Kept w w' S) (hS : ∀ k, k < w.heap.size → S k → k ≠ b ∧ ¬ foot O k) : WlM w' b base mu oa m ca n u s O A := by
  have hnb : ¬ S b := fun e => (hS b h.lt e).1 rfl
  have c : ∀ o, w'.cell? ⟨b, o, none⟩ = w.cell? ⟨b, o, none⟩ := fun o => hk.cell (p := ⟨b, o, none⟩) h.lt hnb
  refine ⟨Nat.lt_of_lt_of_le h.lt hk.size, fun p hp => (c p.1).trans (h.fx p hp), (c 16).trans h.c16, (c 17).trans h.c17, (by obtain ⟨t, e, q⟩ := h.c18; exact ⟨t, (c 18).trans e, q⟩), fun i hi => ?_, h.dj, fun o => (World.frozen?_of_block (w := w) (a := ⟨b, o, none⟩) (hk.block b h.lt hnb)).trans (h.fz o)⟩
  obtain ⟨v, k, cs, h1, h2, h3, h4⟩ := h.rows i hi
  exact ⟨v, k, cs, (c i).trans h1, hk.row h2 fun x hx e => (hS x (h2.lt x hx).2 e).2 ⟨i, hi, h3.symm.trans hx⟩, h3, h4⟩
theorem WlM.below (h : WlM w b base mu oa m ca n u s O A) (hb : Below w.heap.size w w') : WlM w' b base mu oa m ca n u s O A :=
  h.keep (Kept.of_below hb (fun k => w.heap.size ≤ k) fun _ hj _ => hj) fun k hk e => absurd hk (by omega)
/-- A number is written. -/
theorem WlM.num (h : WlM w b base mu oa m ca n u s O A) (hb : b < base) {i : Nat} (hi : i = 16 ∨ i = 17 ∨ i = 18) (v : Value) {W : World} (hW : w.setCell ⟨b, i, none⟩ v = W) {s' : Nat} (hs : s ≤ s') :
    b < W.heap.size ∧ (∀ p ∈ fixL mu oa m ca, W.cell? ⟨b, p.1, none⟩ = some p.2) ∧ (∀ o, o ≠ i → W.cell? ⟨b, o, none⟩ = w.cell? ⟨b, o, none⟩) ∧ (∀ i ∈ rowsL, ∃ v k cs, W.cell? ⟨b, i, none⟩ = some v ∧ W.ownsRow base (rowT i).1 (rowT i).2 v k cs ∧ v.ownBlock = O i ∧ (i = 19 → k = A.length ∧ cs = u8s A) ∧ (i ≠ 19 → k ≤ s')) ∧ ∀ o, W.frozen? ⟨b, o, none⟩ = false := by
  subst hW
  have c : ∀ o, o ≠ i → (w.setCell ⟨b, i, none⟩ v).cell? ⟨b, o, none⟩ = w.cell? ⟨b, o, none⟩ := fun o ho => World.cell?_setCell_other _ _ _ _ (by intro e; cases e; exact ho rfl)
  have k := Kept.setCell w ⟨b, i, none⟩ v
  refine ⟨Nat.lt_of_lt_of_le h.lt k.size, fun p hp => (c p.1 ?_).trans (h.fx p hp), c, fun j hj => ?_, fun o => (World.frozen?_setCell _ _ _ _).trans (h.fz o)⟩
  · simp only [fixL, List.mem_cons, List.not_mem_nil, or_false] at hp
    rcases hp with rfl | rfl | rfl | rfl | rfl | rfl | rfl | rfl | rfl <;> (simp only; omega)
  · obtain ⟨x, y, cs, h1, h2, h3, h4, h5⟩ := h.rows j hj
    refine ⟨x, y, cs, (c j ?_).trans h1, k.row h2 fun z hz e => by have := (h2.lt z hz).1; have e' : z = b := e; omega, h3, h4, fun q => Nat.le_trans (h5 q) hs⟩
    simp only [rowsL, List.mem_cons, List.not_mem_nil, or_false] at hj
    omega
theorem WlM.setN (h : WlM w b base mu oa m ca n u s O A) (hb : b < base) (n' : Nat) : WlM (w.setCell ⟨b, 16, none⟩ (.int .i64 (n' : Nat))) b base mu oa m ca n' u s O A := by
  obtain ⟨a1, a2, a3, a4, a5⟩ := h.num hb (i := 16) (by omega) (.int .i64 (n' : Nat)) rfl (Nat.le_refl s)
  obtain ⟨t, e, q⟩ := h.c18
  exact ⟨a1, a2, World.cell?_setCell_same _ _ _ h.c16, (a3 17 (by decide)).trans h.c17, ⟨t, (a3 18 (by decide)).trans e, q⟩, a4, h.dj, a5⟩
theorem WlM.setU (h : WlM w b base mu oa m ca n u s O A) (hb : b < base) (u' : Nat) : WlM (w.setCell ⟨b, 17, none⟩ (.int .i64 (u' : Nat))) b base mu oa m ca n u' s O A := by
  obtain ⟨a1, a2, a3, a4, a5⟩ := h.num hb (i := 17) (by omega) (.int .i64 (u' : Nat)) rfl (Nat.le_refl s)
  obtain ⟨t, e, q⟩ := h.c18
  exact ⟨a1, a2, (a3 16 (by decide)).trans h.c16, World.cell?_setCell_same _ _ _ h.c17, ⟨t, (a3 18 (by decide)).trans e, q⟩, a4, h.dj, a5⟩
theorem WlM.setS (h : WlM w b base mu oa m ca n u s O A) (hb : b < base) {s' t' : Nat} (hs : s ≤ s') (ht : t' ≤ s') : WlM (w.setCell ⟨b, 18, none⟩ (.int .i64 (t' : Nat))) b base mu oa m ca n u s' O A := by
  obtain ⟨a1, a2, a3, a4, a5⟩ := h.num hb (i := 18) (by omega) (.int .i64 (t' : Nat)) rfl hs
  obtain ⟨t, e, q⟩ := h.c18
  exact ⟨a1, a2, (a3 16 (by decide)).trans h.c16, (a3 17 (by decide)).trans h.c17, ⟨t', World.cell?_setCell_same _ _ _ e, ht⟩, a4, h.dj, a5⟩
theorem WlM.mono (h : WlM w b base mu oa m ca n u s O A) {s' : Nat} (hs : s ≤ s') : WlM w b base mu oa m ca n u s' O A := by
  obtain ⟨t, e, q⟩ := h.c18
  refine ⟨h.lt, h.fx, h.c16, h.c17, ⟨t, e, Nat.le_trans q hs⟩, fun i hi => ?_, h.dj, h.fz⟩
  obtain ⟨v, k, cs, h1, h2, h3, h4, h5⟩ := h.rows i hi
  exact ⟨v, k, cs, h1, h2, h3, h4, fun q => Nat.le_trans (h5 q) hs⟩
/-- A row has grown, and is stored. -/
theorem WlM.setRow (h : WlM w b base mu oa m ca n u s O A) (hb : b < base) {i : Nat} (hi : i ∈ rowsL) {W : World} {v v' : Value} {k : Nat} {cs : List Value} {A' : List Nat} (hc : w.cell? ⟨b, i, none⟩ = some v) (hg : w.grownBy W v.ownBlock) (hv : W.ownsRow base (rowT i).1 (rowT i).2 v' k cs) (hn : ∀ x, v'.ownBlock = some x → v.ownBlock = some x ∨ w.heap.size ≤ x) (hA : i = 19 → k = A'.length ∧ cs = u8s A') (hB : i ≠ 19 → k ≤ s + 1 ∧ A' = A) :
    WlM (W.setCell ⟨b, i, none⟩ v') b base mu oa m ca n u (s + 1) (upd O i v'.ownBlock) A' ∧ Kept w (W.setCell ⟨b, i, none⟩ v') (fun k => k = b ∨ foot O k) ∧ ∀ k, foot (upd O i v'.ownBlock) k → foot O k ∨ w.heap.size ≤ k := by
  obtain ⟨v0, k0, cs0, e1, e2, e3, e4, e5⟩ := h.rows i hi
  have hv0 : v0 = v := by rw [hc] at e1; exact ((Option.some.inj e1).symm)
  subst hv0
  have hne : v0.ownBlock ≠ some b := fun e => by have := (e2.lt b e).1; omega
  have hbl : W.heap[b]? = w.heap[b]? := hg.block b h.lt (fun e => hne e.symm)
  have cw : ∀ o, W.cell? ⟨b, o, none⟩ = w.cell? ⟨b, o, none⟩ := fun o => World.cell?_of_block hbl
  have kc : Kept W (W.setCell ⟨b, i, none⟩ v') (fun k => k = b) := Kept.setCell _ _ _
  have c : ∀ o, o ≠ i → (W.setCell ⟨b, i, none⟩ v').cell? ⟨b, o, none⟩ = w.cell? ⟨b, o, none⟩ := fun o ho => (World.cell?_setCell_other _ _ _ _ (by intro e; cases e; exact ho rfl)).trans (cw o)
  have hi' := hi
  simp only [rowsL, List.mem_cons, List.not_mem_nil, or_false] at hi'
  have hKW : Kept w W (fun k => foot O k) := (Kept.of_grown hg).mono fun x _ hx => ⟨i, hi, by rw [← e3]; exact hx.symm⟩
  refine ⟨⟨Nat.lt_of_lt_of_le h.lt (Nat.le_trans hg.size kc.size), fun p hp => (c p.1 ?_).trans (h.fx p hp), (c 16 (by omega)).trans h.c16, (c 17 (by omega)).trans h.c17, (by obtain ⟨t, e, q⟩ := h.c18; exact ⟨t, (c 18 (by omega)).trans e, Nat.le_succ_of_le q⟩), fun j hj => ?_, fun j hj l hl hjl => ?_, fun o => (World.frozen?_setCell _ _ _ _).trans ((World.frozen?_of_block (w := w) (a := ⟨b, o, none⟩) hbl).trans (h.fz o))⟩, (hKW.mono fun _ _ e => .inr e).trans kc fun x _ e => .inl e, fun x hx => ?_⟩
  · simp only [fixL, List.mem_cons, List.not_mem_nil, or_false] at hp
    rcases hp with rfl | rfl | rfl | rfl | rfl | rfl | rfl | rfl | rfl <;> (simp only; omega)
  · by_cases hji : j = i
    · subst hji
      refine ⟨v', k, cs, World.cell?_setCell_same _ _ _ ((cw j).trans hc), kc.row hv fun x hx e => by have := (hv.lt x hx).1; have e' : x = b := e; omega, by simp [upd], hA, fun q => (hB q).1⟩
    · obtain ⟨x, y, cs', h1, h2, h3, h4, h5⟩ := h.rows j hj
      have hx : ∀ z, x.ownBlock = some z → v0.ownBlock ≠ some z := fun z hz q => by
        have q1 : O j ≠ none := by rw [← h3, hz]; simp
        exact h.dj j hj i hi hji q1 (by rw [← h3, ← e3, hz, q])
      refine ⟨x, y, cs', (c j hji).trans h1, kc.row ((Kept.of_grown hg).row h2 fun z hz e => hx z hz e.symm) fun z hz e => by have := (h2.lt z hz).1; have e' : z = b := e; omega, by simp [upd, hji, h3], fun q => ?_, fun q => Nat.le_succ_of_le (h5 q)⟩
      have := hB (fun q2 => hji (q.trans q2.symm))
      rw [this.2]; exact h4 q
  · have old : ∀ z ∈ rowsL, ∀ x, O z = some x → x < w.heap.size := fun z hz x hx => (h.footLt ⟨z, hz, hx⟩).2
    unfold upd
    by_cases hji : j = i
    · rw [if_pos hji, if_neg (fun q => hjl (hji.trans q.symm))]
      intro q1 q2
      obtain ⟨x, hx⟩ := Option.ne_none_iff_exists'.1 q1
      rcases hn x hx with q | q
      · have := h.dj i hi l hl (fun z => hjl (hji.trans z)) (by rw [← e3, q]; simp)
        exact this (by rw [← e3, q, ← hx, q2])
      · have := old l hl x (q2.symm.trans hx); omega
    · rw [if_neg hji]
      by_cases hli : l = i
      · rw [if_pos hli]
        intro q1 q2
        obtain ⟨x, hx⟩ := Option.ne_none_iff_exists'.1 q1
        have hx2 := q2.symm.trans hx
        rcases hn x hx2 with q | q
        · exact h.dj j hj i hi hji q1 (by rw [← e3, q, hx])
        · have := old j hj x hx; omega
      · rw [if_neg hli]
        exact h.dj j hj l hl hjl
  · obtain ⟨j, hj, hx⟩ := hx
    unfold upd at hx
    by_cases hji : j = i
    · rw [if_pos hji] at hx
      rcases hn x hx with q | q
      · exact .inl ⟨i, hi, by rw [← e3]; exact q⟩
      · exact .inr q
    · rw [if_neg hji] at hx
      exact .inl ⟨j, hj, hx⟩
end
end Go.Proofs.YtdinjlglngpecaaGreatDoor
