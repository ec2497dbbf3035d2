/- Contract of package resolve: clone of the command p. No condition. -/
import Derived.Test.YtdinjlglngpecaaGreatDoorSw
import Derived.Deep.WholeRow
import Derived.Deep.LoopGhost
namespace Go.Proofs.YtdinjlglngpecaaGreatDoor
open Go.RowKit Go.Shelf

/-- What a copy of p says. -/
structure CmC (l : List Value) : Prop where
  cl : CmdL l
  ka : l[0]? = some (.int .i8 0)
  nt : l[6]? = some (.bool false)
  nm : l[7]? = some (.int .u8 112)
  r : ∀ i, i = 2 ∨ i = 5 ∨ i = 10 → l[i]? = some (.slice none 0 0)
theorem CmC.set {l : List Value} (h : CmC l) {i : Nat} (hi : i ≠ 0 ∧ i ≠ 6 ∧ i ≠ 7) {v : Value} (hv : v.oneCell' = true) (hr : (i = 2 ∨ i = 5 ∨ i = 10) → v = .slice none 0 0) : CmC (l.set i v) :=
  ⟨h.cl.set i hv, by rw [List.getElem?_set_ne hi.1]; exact h.ka, by rw [List.getElem?_set_ne hi.2.1]; exact h.nt, by rw [List.getElem?_set_ne hi.2.2]; exact h.nm, fun j hj => by
    by_cases e : i = j
    · subst e
      rw [List.getElem?_set_self (by have := (List.getElem?_eq_some_iff.1 (h.r i hj)).1; exact this), hr hj]
    · rw [List.getElem?_set_ne e]; exact h.r j hj⟩
section
variable {w w' : World} {b : Nat} {l : List Value}
theorem cmb_other {c : Nat} (h : CmB w b l) (hc : b ≠ c) (o : Nat) (v : Value) : CmB (w.setCell ⟨c, o, none⟩ v) b l := h.block (Below.heap_setCell _ _ _ _ hc)
theorem cmb_info (h : CmdL l) : (Tryz.prog.info? 60).map (·.size) = some l.toArray.size := by rw [cmd_info, List.size_toArray, h.len]
theorem below_row {k g : Nat} {W : World} (h : Below k w W) (hk : k ≤ g) (cs : Array Value) : Below k w (W.setRow g cs) :=
  ⟨h.os, h.tape, h.output, by simpa [World.setRow] using h.size, fun j hj => by
    have e : (W.setRow g cs).heap[j]? = W.heap[j]? := by simp [World.setRow, Array.getElem?_modify, show g ≠ j by omega]
    rw [e]; exact h.block j hj⟩
theorem results_cell1 {fn : Func} {p : Tmp} {ty : TypeId} (h : fn.results = #[.cell p ty]) (tmps : Array Value) (P : Program) (w : World) :
    (results fn tmps).run P w = ((asAddr (tmps.getD p undef)).run P w).andThen fun a w₁ => (loadVar ty a).run P w₁ := by
  simp only [results, h]
  simp [Sem.run_bind, Result.andThen]
theorem ret_cellC {fn : Func} {p : Tmp} (hf : fn.results = #[.cell p 60]) {Q : Ending → World → Prop} {a : Act} {w : World} (hp : a.tmps.getD p undef = .pointer (some ⟨b, 0, none⟩)) (hd : a.defers = [])
    (h : CmB w b l) (hQ : Q (.returned (.agg l.toArray)) w) : bodyPost Tryz.prog fn Q .ret a w := by
  refine bodyPost_ret (v := .agg l.toArray) ?_ hd hQ
  rw [results_cell1 hf, hp]
  simp only [asAddr, Sem.run_pure, Result.andThen]
  exact run_loadVar_row w b _ _ _ (0, 0) _ h.heap Tryz.underlying60 rfl (cmb_info h.cl)
theorem clone_nil : Calls Tryz.prog 62 #[.slice none 0 0] w fun e w' => e = .returned (.slice none 0 0) ∧ w = w' :=
  (Any.bytes_Clone_nil bcLays 0 0 w).mono fun _ _ ⟨h1, h2⟩ => ⟨h1, h2.symm⟩
set_option maxRecDepth 100000 in
set_option maxHeartbeats 800000 in
theorem cloneN_nil : Calls Tryz.prog 39 #[.slice none 0 0] w fun e w' => e = .returned (.slice none 0 0) ∧ w = w' := by
  go_enter Tryz.func39, Tryz.ntmps39
  have hq : ∀ w, (binOp .eql 53 (.slice none 0 0) (.slice none 0 0)).run Tryz.prog w = .ok (.bool true) w := fun _ => by kernel_rfl
  go_wp2_with fail
  go_ret
  exact ⟨rfl, rfl⟩
theorem elPi : ElT Tryz.prog 56 62 2 32 (.agg #[.int .i64 0, .slice none 0 0]) := ⟨Tryz.underlying56, by kernel_rfl, rfl, by decide⟩
set_option maxRecDepth 100000 in
set_option maxHeartbeats 6400000 in
theorem clone_p (h : PcV l) : Calls Tryz.prog 36 #[.agg l.toArray] w fun e w' => (∃ l', e = .returned (.agg l'.toArray) ∧ CmC l') ∧ Below w.heap.size w w' := by
  have HP := Lib.hid h
  have hb0 := CmB.new h.cl w
  have hz0 := CmB.new CmdL.zero (w.alloc (.cells l.toArray 60))
  have e1 : (w.alloc (.cells l.toArray 60)).heap.size = w.heap.size + 1 := by simp
  have hb1 := hb0.block (w' := (w.alloc (.cells l.toArray 60)).alloc (.cells Tryz.zeroCells60.toList.toArray 60)) (heap_alloc_old _ _ hb0.lt)
  rw [e1] at hz0
  have HB := Lib.hid (((Below.refl w.heap.size w).alloc (Nat.le_refl _) (.cells l.toArray 60)).alloc (by simp) (.cells Tryz.zeroCells60.toList.toArray 60))
  have H0 := Lib.hid hb1
  have HZ := Lib.hid hz0
  clear h hb0 hz0 hb1 e1
  go_enter Tryz.func36, Tryz.ntmps36
  go_upto_region 1 with fail
  obtain ⟨W, hW⟩ : ∃ W, (w.alloc (.cells l.toArray 60)).alloc (.cells Tryz.zeroCells60.toList.toArray 60) = W := ⟨_, rfl⟩
  have hW' : (w.alloc (.cells l.toArray 60)).alloc (.cells Tryz.zeroCells60 60) = W := hW
  rw [hW] at HB H0 HZ
  rw [hW']
  clear hW hW'
  obtain ⟨b, hbz⟩ : ∃ b, w.heap.size = b := ⟨_, rfl⟩
  rw [hbz] at H0 HZ HB ⊢
  have HBZ := Lib.hid hbz
  clear hbz
  have HC0 := Lib.hid (show CmC l from ⟨HP.out.cl, HP.out.a0, HP.out.nt, HP.out.nm, fun i hi => by rcases hi with rfl | rfl | rfl <;> first | exact HP.out.a2 | exact HP.out.b2 | exact HP.out.re⟩)
  have k9 : W.cell? ⟨b, 9, none⟩ = some (.slice none 0 0) := (H0.out.cell 9).trans HP.out.tx
  have z9 := H0.out.fz 9
  have hl := H0.out.lt
  have HCN : ∀ W : World, Hid _ := fun W => Lib.hid (clone_nil (w := W))
  have HNN : ∀ W : World, Hid _ := fun W => Lib.hid (cloneN_nil (w := W))
  go_wp2_with fail
  refine (HCN _).out.mono ?_; rintro e wq ⟨rfl, rfl⟩
  have H1 := Lib.hid (H0.out.set 9 (v := .slice none 0 0) rfl)
  have HZ1 := Lib.hid (cmb_other HZ.out (show b + 1 ≠ b by omega) 9 (.slice none 0 0))
  have HB1 := Lib.hid (HB.out.setCell (p := ⟨b, 9, none⟩) (Nat.le_refl _) (.slice none 0 0))
  have HC1 := Lib.hid (HC0.out.set (i := 9) (by decide) (v := .slice none 0 0) rfl fun _ => rfl)
  go_upto_region 2 with fail
  obtain ⟨W1, hW⟩ : ∃ V, W.setCell ⟨b, 9, none⟩ (.slice none 0 0) = V := ⟨_, rfl⟩
  rw [hW] at H1 HZ1 HB1 ⊢
  clear hW k9 z9 hl H0 HZ HB HC0
  have g2 : (l.set 9 (.slice none 0 0))[2]? = some (.slice none 0 0) := by rw [List.getElem?_set_ne (by decide)]; exact HP.out.a2
  have g5 : (l.set 9 (.slice none 0 0))[5]? = some (.slice none 0 0) := by rw [List.getElem?_set_ne (by decide)]; exact HP.out.b2
  have g10 : (l.set 9 (.slice none 0 0))[10]? = some (.slice none 0 0) := by rw [List.getElem?_set_ne (by decide)]; exact HP.out.re
  have g11 : (l.set 9 (.slice none 0 0))[11]? = some (.slice none 0 0) := by rw [List.getElem?_set_ne (by decide)]; exact HP.out.fi
  obtain ⟨l1, hl1⟩ : ∃ x, l.set 9 (.slice none 0 0) = x := ⟨_, rfl⟩
  rw [hl1] at H1 HC1 g2 g5 g10 g11
  clear hl1
  have k2 : W1.cell? ⟨b, 2, none⟩ = some (.slice none 0 0) := (H1.out.cell 2).trans g2
  have k5 : W1.cell? ⟨b, 5, none⟩ = some (.slice none 0 0) := (H1.out.cell 5).trans g5
  have k10 : W1.cell? ⟨b, 10, none⟩ = some (.slice none 0 0) := (H1.out.cell 10).trans g10
  have hl := H1.out.lt
  have fz := H1.out.fz
  have G11 := Lib.hid g11
  clear g2 g5 g10 g11
  refine wp_region_segs (X := none) 12 [([0, 1, 3, 4, 5, 7, 8, 9], 2), ([11], 6), ([], 10)] [] (by kernel_rfl) (by kernel_rfl) rfl (fun _ _ _ _ _ h => h) ?_
  simp only [wpSegs, pickSegs_nil, pickSegs_cons, pickOps_nil, pickOps_cons, List.getD_cons_zero, List.getD_cons_succ, List.drop_succ_cons, List.drop_zero]
  repeat (go_big_quiet_step (fail))
  refine wpQuiet_nil ?_
  go_wp2_with fail
  refine (HNN _).out.mono ?_; rintro e wq ⟨rfl, rfl⟩
  dsimp only
  go_wp2_with fail
  refine ⟨Keeps.refl _, ?_⟩
  repeat (go_big_quiet_step (fail))
  refine wpQuiet_nil ?_
  go_wp2_with fail
  refine (HNN _).out.mono ?_; rintro e wq ⟨rfl, rfl⟩
  dsimp only
  go_wp2_with fail
  refine ⟨Keeps.refl _, ?_⟩
  repeat (go_big_quiet_step (fail))
  refine wpQuiet_nil ?_
  go_wp2_with fail
  refine (HNN _).out.mono ?_; rintro e wq ⟨rfl, rfl⟩
  dsimp only
  go_wp2_with fail
  refine ⟨Keeps.refl _, ?_⟩
  repeat (go_big_quiet_step (fail))
  refine wpQuiet_nil ?_
  go_upto_region 3 with fail
  have H2 := Lib.hid (((H1.out.set 10 (v := .slice none 0 0) rfl).set 2 (v := .slice none 0 0) rfl).set 5 (v := .slice none 0 0) rfl)
  have HZ2 := Lib.hid (cmb_other (cmb_other (cmb_other HZ1.out (show b + 1 ≠ b by omega) 10 (.slice none 0 0)) (show b + 1 ≠ b by omega) 2 (.slice none 0 0)) (show b + 1 ≠ b by omega) 5 (.slice none 0 0))
  have HB2 := Lib.hid ((((HB1.out.setCell (p := ⟨b, 10, none⟩) (Nat.le_refl _) (.slice none 0 0)).setCell (p := ⟨b, 2, none⟩) (Nat.le_refl _) (.slice none 0 0)).setCell (p := ⟨b, 5, none⟩) (Nat.le_refl _) (.slice none 0 0)).drew)
  have HC2 := Lib.hid (((HC1.out.set (i := 10) (by decide) (v := .slice none 0 0) rfl fun _ => rfl).set (i := 2) (by decide) (v := .slice none 0 0) rfl fun _ => rfl).set (i := 5) (by decide) (v := .slice none 0 0) rfl fun _ => rfl)
  have g11 : (((l1.set 10 (.slice none 0 0)).set 2 (.slice none 0 0)).set 5 (.slice none 0 0))[11]? = some (.slice none 0 0) := by
    rw [List.getElem?_set_ne (by decide), List.getElem?_set_ne (by decide), List.getElem?_set_ne (by decide)]; exact G11.out
  obtain ⟨W2, hW⟩ : ∃ V, (((W1.setCell ⟨b, 10, none⟩ (.slice none 0 0)).setCell ⟨b, 2, none⟩ (.slice none 0 0)).setCell ⟨b, 5, none⟩ (.slice none 0 0)).drew = V := ⟨_, rfl⟩
  have H2 : Hid (CmB W2 b _) := Lib.hid (by rw [← hW]; exact H2.out.block rfl)
  have HZ2 : Hid (CmB W2 (b + 1) _) := Lib.hid (by rw [← hW]; exact HZ2.out.block rfl)
  rw [hW] at HB2 ⊢
  obtain ⟨l2, hl2⟩ : ∃ x, ((l1.set 10 (.slice none 0 0)).set 2 (.slice none 0 0)).set 5 (.slice none 0 0) = x := ⟨_, rfl⟩
  rw [hl2] at H2 HC2 g11
  clear hW hl2 k2 k5 k10 hl fz G11 HB1 HZ1 HC1 H1 HNN HCN
  have k11 : W2.cell? ⟨b, 11, none⟩ = some (.slice none 0 0) := (H2.out.cell 11).trans g11
  have hl := H2.out.lt
  obtain ⟨i0, hi, hz0, hz1, hz2⟩ := info_parts (elPi).hi
  go_wp2_with (at_make; refine wpList_make_own _ rfl _ _ 56 rfl b 62 i0 _ 2 Tryz.underlying56 hi hz0 hz1 .i64 .i64 0 0 rfl rfl (by omega) (by rw [hz2]; omega) (by unfold maxLen; omega) (by omega) ?_)
  intro w3 hown hgr
  obtain ⟨q, hq⟩ : ∃ q, W2.heap.size = q := ⟨_, rfl⟩
  rw [hq] at hown ⊢
  have hb3 : Below W2.heap.size W2 w3 := (Below.refl _ _).grown hgr (Nat.le_refl _) (fun k hk => by cases hk)
  have H3 := Lib.hid (H2.out.below hb3)
  have HZ3 := Lib.hid (HZ2.out.below hb3)
  have HB3 := Lib.hid (HB2.out.trans (hb3.mono (by have := H2.out.lt; omega)))
  clear hown hgr hb3 hq hi hz0 hz1 hz2 H2 HZ2 HB2
  have k11 : w3.cell? ⟨b, 11, none⟩ = some (.slice none 0 0) := (H3.out.cell 11).trans g11
  have hl := H3.out.lt
  go_wp2_with fail
  go_loopg [3, 33] 1 (fun gk fv kv wr => fv = .slice (some ⟨q, 0, none⟩) 0 0 ∧ kv = .int .i64 0 ∧ wr = w3)
  case atStart => exact ⟨rfl, rfl, rfl⟩
  case round =>
  obtain ⟨rfl, rfl, rfl⟩ := hrel
  have fz := H3.out.fz
  have H4 := Lib.hid (H3.out.set 11 (v := .slice (some ⟨q, 0, none⟩) 0 0) rfl)
  have HZ4 := Lib.hid (cmb_other HZ3.out (show b + 1 ≠ b by omega) 11 (.slice (some ⟨q, 0, none⟩) 0 0))
  have HB4 := Lib.hid (HB3.out.setCell (p := ⟨b, 11, none⟩) (Nat.le_refl _) (.slice (some ⟨q, 0, none⟩) 0 0))
  have HC4 := Lib.hid (HC2.out.set (i := 11) (by decide) (v := .slice (some ⟨q, 0, none⟩) 0 0) rfl fun e => by omega)
  go_upto_region 10 with fail
  obtain ⟨W4, hW⟩ : ∃ V, wr.setCell ⟨b, 11, none⟩ (.slice (some ⟨q, 0, none⟩) 0 0) = V := ⟨_, rfl⟩
  rw [hW] at H4 HZ4 HB4 ⊢
  clear hW k11 hl fz g11 H3 HZ3 HB3 HC2
  obtain ⟨l4, hl4⟩ : ∃ x, l2.set 11 (.slice (some ⟨q, 0, none⟩) 0 0) = x := ⟨_, rfl⟩
  rw [hl4] at H4 HC4
  clear hl4
  have HSZ := Lib.hid (cmb_info H4.out.cl)
  have HSO : Hid (Tryz.zeroCells60.toList.toArray.size = l4.toArray.size) := Lib.hid (by rw [List.size_toArray, List.size_toArray, cmd_size, H4.out.cl.len])
  have HON : Hid (l4.toArray.all (·.oneCell') = true) := Lib.hid (by rw [← Array.all_toList, List.all_eq_true]; simpa using H4.out.cl.one)
  go_wp2_with (first | refine wpList_load_row rfl 60 _ rfl b rfl _ _ (0, 0) _ H4.out.heap Tryz.underlying60 rfl HSZ.out ?_ | refine wpList_store_row rfl 60 _ _ rfl (b + 1) _ rfl rfl _ _ HZ4.out.heap HSZ.out HSO.out HON.out ?_)
  have HR : CmB (W4.setRow (b + 1) l4.toArray) (b + 1) l4 := ⟨setRow_heap _ _ _ _ _ _ HZ4.out.heap, H4.out.cl⟩
  refine ret_cellC (p := 2) rfl rfl rfl HR ⟨⟨l4, rfl, HC4.out⟩, ?_⟩
  rw [HBZ.out]
  exact below_row HB4.out (by omega) _
end
end Go.Proofs.YtdinjlglngpecaaGreatDoor
