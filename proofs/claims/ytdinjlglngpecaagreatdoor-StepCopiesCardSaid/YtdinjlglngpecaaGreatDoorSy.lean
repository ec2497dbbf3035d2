/- Contract of package resolve: Resolve of no commands. No condition. -/
import Derived.Test.YtdinjlglngpecaaGreatDoorSx
import Derived.Deep.LoopGhost
import Derived.WalkMore
namespace Go.Proofs.YtdinjlglngpecaaGreatDoor
open Go.RowKit

theorem elIn : ElT Tryz.prog 29 3 1 8 (.int .i64 0) := ⟨Tryz.underlying29, by kernel_rfl, rfl, by decide⟩
section
variable {w w' : World} {b : Nat}
theorem wpList_mkm {ops : Array Oper} {rest : List Oper} {op : Oper} {a : Act} {w : World} {Q : Exit → Act → World → Prop} (hgd : op.guard = none) (ty : TypeId) (hop : op.op = .makeMap ty none)
    (hc : wpList Tryz.prog ops Q rest (a.put op.dst (.map (some w.heap.size))) (w.alloc (.map #[] 0))) : wpList Tryz.prog ops Q (op :: rest) a w :=
  wpList_plain hgd fun _ hK => by
    unfold Oper.wp execOp
    simp only [hop, Option.map_none, Instr.makeMap, Sem.run_bind, Result.andThen_ok, newObj, Sem.run]
    exact hK _ _ hc
/-- A program's block. -/
structure PrB (w : World) (b : Nat) (v0 v1 v2 : Value) (q : Bool) : Prop where
  lt : b < w.heap.size
  c0 : w.cell? ⟨b, 0, none⟩ = some v0
  c1 : w.cell? ⟨b, 1, none⟩ = some v1
  c2 : w.cell? ⟨b, 2, none⟩ = some v2
  c3 : w.cell? ⟨b, 3, none⟩ = some (.bool q)
  fz : ∀ o, w.frozen? ⟨b, o, none⟩ = false
theorem PrB.same {v0 v1 v2 : Value} {q : Bool} (h : PrB w b v0 v1 v2 q) (hb : w'.heap[b]? = w.heap[b]?) (hs : w.heap.size ≤ w'.heap.size) : PrB w' b v0 v1 v2 q :=
  ⟨Nat.lt_of_lt_of_le h.lt hs, (World.cell?_of_block (a := ⟨b, 0, none⟩) hb).trans h.c0, (World.cell?_of_block (a := ⟨b, 1, none⟩) hb).trans h.c1, (World.cell?_of_block (a := ⟨b, 2, none⟩) hb).trans h.c2, (World.cell?_of_block (a := ⟨b, 3, none⟩) hb).trans h.c3, fun o => (World.frozen?_of_block (w := w) (a := ⟨b, o, none⟩) hb).trans (h.fz o)⟩
theorem PrB.below {v0 v1 v2 : Value} {q : Bool} (h : PrB w b v0 v1 v2 q) (hb : Below w.heap.size w w') : PrB w' b v0 v1 v2 q := h.same (hb.block b h.lt) hb.size
theorem PrB.new (w : World) (v0 v1 v2 : Value) (q : Bool) : PrB (w.alloc (.cells #[v0, v1, v2, .bool q] 32)) w.heap.size v0 v1 v2 q :=
  ⟨new_lt _ _, new_cell _ _ _ 0, new_cell _ _ _ 1, new_cell _ _ _ 2, new_cell _ _ _ 3, new_fz _ _ _⟩
theorem PrB.set0 {v0 v1 v2 : Value} {q : Bool} (h : PrB w b v0 v1 v2 q) (v : Value) : PrB (w.setCell ⟨b, 0, none⟩ v) b v v1 v2 q :=
  ⟨by simpa [World.setCell] using h.lt, World.cell?_setCell_same _ _ _ h.c0, (World.cell?_setCell_other _ _ _ _ (by intro e; cases e)).trans h.c1, (World.cell?_setCell_other _ _ _ _ (by intro e; cases e)).trans h.c2, (World.cell?_setCell_other _ _ _ _ (by intro e; cases e)).trans h.c3, fun o => (World.frozen?_setCell _ _ _ _).trans (h.fz o)⟩
theorem PrB.put {v0 v1 v2 : Value} {q : Bool} (h : PrB w b v0 v1 v2 q) (u0 u1 u2 : Value) (q' : Bool) : PrB ((((w.setCell ⟨b, 0, none⟩ u0).setCell ⟨b, 1, none⟩ u1).setCell ⟨b, 2, none⟩ u2).setCell ⟨b, 3, none⟩ (.bool q')) b u0 u1 u2 q' := by
  have o : ∀ (w : World) (i j : Nat) (v : Value), i ≠ j → (w.setCell ⟨b, j, none⟩ v).cell? ⟨b, i, none⟩ = w.cell? ⟨b, i, none⟩ := fun w i j v hij => World.cell?_setCell_other _ _ _ _ (by intro e; cases e; exact hij rfl)
  have s : ∀ (w : World) (i : Nat) (v u : Value), w.cell? ⟨b, i, none⟩ = some u → (w.setCell ⟨b, i, none⟩ v).cell? ⟨b, i, none⟩ = some v := fun w i v u hu => World.cell?_setCell_same _ _ _ hu
  refine ⟨by simpa [World.setCell] using h.lt, ?_, ?_, ?_, ?_, fun o => ?_⟩
  · rw [o _ 0 3 _ (by decide), o _ 0 2 _ (by decide), o _ 0 1 _ (by decide)]; exact s _ _ _ _ h.c0
  · rw [o _ 1 3 _ (by decide), o _ 1 2 _ (by decide)]; exact s _ _ _ _ ((o _ 1 0 _ (by decide)).trans h.c1)
  · rw [o _ 2 3 _ (by decide)]; exact s _ _ _ _ ((o _ 2 1 _ (by decide)).trans ((o _ 2 0 _ (by decide)).trans h.c2))
  · exact s _ _ _ _ ((o _ 3 2 _ (by decide)).trans ((o _ 3 1 _ (by decide)).trans ((o _ 3 0 _ (by decide)).trans h.c3)))
  · rw [World.frozen?_setCell, World.frozen?_setCell, World.frozen?_setCell, World.frozen?_setCell]; exact h.fz o
/-- What Resolve hands back, where it refuses nothing. -/
theorem ret_res {Q : Ending → World → Prop} {a : Act} {oc ot of_ : Option Addr} {nc cc nt ct nf cf : Nat} {q : Bool} (h4 : a.tmps.getD 4 undef = .pointer (some ⟨b, 0, none⟩)) (h5 : a.tmps.getD 5 undef = .int .i64 0) (h6 : a.tmps.getD 6 undef = .int .i64 0) (hd : a.defers = [])
    (c0 : w.cell? ⟨b, 0, none⟩ = some (.slice oc nc cc)) (c1 : w.cell? ⟨b, 1, none⟩ = some (.slice ot nt ct)) (c2 : w.cell? ⟨b, 2, none⟩ = some (.slice of_ nf cf)) (c3 : w.cell? ⟨b, 3, none⟩ = some (.bool q))
    (hQ : Q (.returned (.tuple #[.agg #[.slice oc nc cc, .slice ot nt ct, .slice of_ nf cf, .bool q], .int .i64 0, .int .i64 0])) w) :
    bodyPost Tryz.prog Tryz.f18 Q .ret a w := by
  refine bodyPost_ret (v := .tuple #[.agg #[.slice oc nc cc, .slice ot nt ct, .slice of_ nf cf, .bool q], .int .i64 0, .int .i64 0]) ?_ hd hQ
  simp only [Array.getD_eq_getD_getElem?] at h4 h5 h6
  simp [results, Tryz.results18, go_sem, h4, h5, h6, c0, c1, c2, c3]
set_option maxRecDepth 100000 in
set_option maxHeartbeats 6400000 in
theorem resolve_0 (q : Bool) : Calls Tryz.prog 18 #[.slice none 0 0, .bool q] w fun e w' => (∃ ot ct, e = .returned (.tuple #[.agg #[.slice none 0 0, .slice ot 0 ct, .slice none 0 0, .bool q], .int .i64 0, .int .i64 0])) ∧ Below w.heap.size w w' := by
  have hmf : ∀ (fn : Fn) (first cap : Array Value) (w : World), (Instr.makeFunc fn first cap).run Tryz.prog w = .ok (.func fn first cap) w := fun _ _ _ _ => rfl
  have hb0 : (w.alloc (.cells #[.slice none 0 0] 28)).cell? ⟨w.heap.size, 0, none⟩ = some (.slice none 0 0) := new_cell _ _ _ 0
  have e1 : (w.alloc (.cells #[.slice none 0 0] 28)).heap.size = w.heap.size + 1 := by simp
  have hp := PrB.new (w.alloc (.cells #[.slice none 0 0] 28)) (.slice none 0 0) (.slice none 0 0) (.slice none 0 0) false
  rw [e1] at hp
  have hba : Below w.heap.size w ((w.alloc (.cells #[.slice none 0 0] 28)).alloc (.cells #[.slice none 0 0, .slice none 0 0, .slice none 0 0, .bool false] 32)) := ((Below.refl _ _).alloc (Nat.le_refl _) _).alloc (by simp) _
  have hb0 := (World.cell?_of_block (w := w.alloc (.cells #[.slice none 0 0] 28)) (w' := (w.alloc (.cells #[.slice none 0 0] 28)).alloc (.cells #[.slice none 0 0, .slice none 0 0, .slice none 0 0, .bool false] 32)) (a := ⟨w.heap.size, 0, none⟩) (heap_alloc_old _ _ (new_lt _ _))).trans hb0
  have HB := Lib.hid hba
  have H0 := Lib.hid hb0
  have HP := Lib.hid hp
  clear hb0 e1 hp hba
  go_enter Tryz.func18, Tryz.ntmps18
  go_upto_region 1 with fail
  obtain ⟨W, hW⟩ : ∃ W, (w.alloc (.cells #[.slice none 0 0] 28)).alloc (.cells #[.slice none 0 0, .slice none 0 0, .slice none 0 0, .bool false] 32) = W := ⟨_, rfl⟩
  rw [hW] at HB H0 HP ⊢
  clear hW
  obtain ⟨c, hcz⟩ : ∃ c, w.heap.size = c := ⟨_, rfl⟩
  rw [hcz] at HB H0 HP ⊢
  have HCZ := Lib.hid hcz
  clear hcz
  have b0 := H0.out
  have hl : c < W.heap.size := World.block_lt_of_cell? _ _ b0
  have hl1 := HP.out.lt
  obtain ⟨i0, hi, hz0, hz1, hz2⟩ := info_parts (elIn).hi
  go_step3
  go_wp2_with (at_make; refine wpList_make_full _ rfl _ _ 29 rfl c 3 i0 _ 1 Tryz.underlying29 hi hz0 hz1 .i64 .i64 0 0 0 rfl rfl (by omega) (by omega) (by rw [hz2]; omega) (by unfold maxLen; omega) (by omega) ?_)
  intro w1 _ hgr
  have hb1 : Below W.heap.size W w1 := (Below.refl _ _).grown hgr (Nat.le_refl _) (fun k hk => by cases hk)
  obtain ⟨g, hg⟩ : ∃ g, W.heap.size = g := ⟨_, rfl⟩
  rw [hg] at hb1 ⊢
  have HB1 := Lib.hid (HB.out.trans (hb1.mono (by omega)))
  have H1 := Lib.hid ((hb1.cell (p := ⟨c, 0, none⟩) (by show c < g; omega)).trans H0.out)
  have HP1 := Lib.hid (HP.out.same (hb1.block _ (by omega)) (by have := hb1.size; omega))
  clear hgr hb1 hi hz0 hz1 hz2 b0 hl hl1 hg HB H0 HP
  have b0 := H1.out
  have hl : c < w1.heap.size := World.block_lt_of_cell? _ _ b0
  have hl1 := HP1.out.lt
  have HQ := Lib.hid (PrB.new w1 (.slice none 0 0) (.slice (some ⟨g, 0, none⟩) 0 0) (.slice none 0 0) q)
  have hba : Below w1.heap.size w1 ((w1.alloc (.cells #[.slice none 0 0, .slice (some ⟨g, 0, none⟩) 0 0, .slice none 0 0, .bool q] 32))) := (Below.refl _ _).alloc (Nat.le_refl _) _
  go_upto_region 2 with fail
  obtain ⟨V, hV⟩ : ∃ V, w1.alloc (.cells #[.slice none 0 0, .slice (some ⟨g, 0, none⟩) 0 0, .slice none 0 0, .bool q] 32) = V := ⟨_, rfl⟩
  rw [hV] at hba HQ ⊢
  have HB2 := Lib.hid (HB1.out.trans (hba.mono (by omega)))
  have H2 := Lib.hid ((hba.cell (p := ⟨c, 0, none⟩) hl).trans H1.out)
  have HP2 := Lib.hid (HP1.out.below hba)
  clear hV hba b0 HB1 H1 HP1
  obtain ⟨d, hd⟩ : ∃ d, w1.heap.size = d := ⟨_, rfl⟩
  rw [hd] at HQ hl hl1 ⊢
  clear hd
  go_wp2_with (refine wpList_mkm rfl _ rfl ?_)
  go_step3
  have hbm : Below V.heap.size V (V.alloc (.map #[] 0)) := (Below.refl _ _).alloc (Nat.le_refl _) _
  have hcV : c < V.heap.size := World.block_lt_of_cell? _ _ H2.out
  have HB3 := Lib.hid (HB2.out.trans (hbm.mono (by omega)))
  have H3 := Lib.hid ((hbm.cell (p := ⟨c, 0, none⟩) hcV).trans H2.out)
  have HP3 := Lib.hid (HP2.out.below hbm)
  have HQ3 := Lib.hid (HQ.out.below hbm)
  obtain ⟨U, hU⟩ : ∃ U, V.alloc (.map #[] 0) = U := ⟨_, rfl⟩
  rw [hU] at HB3 H3 HP3 HQ3 ⊢
  clear hU hbm hcV HB2 H2 HP2 HQ
  have b0 := H3.out
  have hl : c < U.heap.size := World.block_lt_of_cell? _ _ b0
  go_wp2_with fail
  go_loopg [5, 6, 10, 28] 1 (fun gk ev av ov kv wr => ev = .int .i64 0 ∧ av = .int .i64 0 ∧ ov = .slice none 0 0 ∧ kv = .int .i64 0 ∧ wr = U)
  case atStart => exact ⟨rfl, rfl, rfl, rfl, rfl⟩
  case round =>
  obtain ⟨rfl, rfl, rfl, rfl, hwr⟩ := hrel
  subst hwr
  go_wp2_with fail
  rename World => X
  go_loopg [5, 6, 183] 1 (fun gk ev av kv wr => ev = .int .i64 0 ∧ av = .int .i64 0 ∧ kv = .int .i64 0 ∧ wr = X)
  case atStart => exact ⟨rfl, rfl, rfl, rfl⟩
  case round =>
  obtain ⟨rfl, rfl, rfl, hwr⟩ := hrel
  subst hwr
  have d0 := HQ3.out.c0
  have d1 := HQ3.out.c1
  have d2 := HQ3.out.c2
  have d3 := HQ3.out.c3
  have hdl := HQ3.out.lt
  have p0 := HP3.out.c0
  have p1 := HP3.out.c1
  have p2 := HP3.out.c2
  have p3 := HP3.out.c3
  have hpl := HP3.out.lt
  have fz := HP3.out.fz
  go_wp2_with fail
  rw [Exit.noGoto_ret]
  have hf := HP3.out.put (.slice none 0 0) (.slice (some ⟨g, 0, none⟩) 0 0) (.slice none 0 0) q
  have hbf := (((HB3.out.setCell (p := ⟨c + 1, 0, none⟩) (by show c ≤ c + 1; omega) (.slice none 0 0)).setCell (p := ⟨c + 1, 1, none⟩) (by show c ≤ c + 1; omega) (.slice (some ⟨g, 0, none⟩) 0 0)).setCell (p := ⟨c + 1, 2, none⟩) (by show c ≤ c + 1; omega) (.slice none 0 0)).setCell (p := ⟨c + 1, 3, none⟩) (by show c ≤ c + 1; omega) (.bool q)
  refine ret_res rfl rfl rfl rfl hf.c0 hf.c1 hf.c2 hf.c3 ⟨⟨_, _, rfl⟩, ?_⟩
  rw [HCZ.out]
  exact hbf
end
end Go.Proofs.YtdinjlglngpecaaGreatDoor
