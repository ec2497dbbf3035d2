/- Contract of package resolve: Resolve of the command p alone. No condition. -/
import Derived.Test.YtdinjlglngpecaaGreatDoorSy
import Derived.Test.YtdinjlglngpecaaGreatDoorSn
import Derived.Great.BuildSlice
namespace Go.Proofs.YtdinjlglngpecaaGreatDoor
open Go.RowKit

theorem elCm : ElT Tryz.prog 28 60 272 440 (.agg Tryz.zeroCells60) := ⟨Tryz.underlying28, by kernel_rfl, by kernel_rfl, by decide⟩
theorem wpList_one {ops : Array Oper} {rest : List Oper} {op : Oper} {a : Act} {w : World} {Q : Exit → Act → World → Prop} (hgd : op.guard = none) (x : Operand) (hop : op.op = .buildSlice 28 1 #[(0, x)]) {l : List Value} (hx : a.eval x = .agg l.toArray) (hl : CmdL l)
    (h : wpList Tryz.prog ops Q rest (a.put op.dst (.slice (some ⟨w.heap.size, 0, none⟩) 1 1)) (w.alloc (.cells l.toArray 60))) : wpList Tryz.prog ops Q (op :: rest) a w := by
  obtain ⟨i, hi, hz0, hz1, _⟩ := info_parts elCm.hi
  refine wpList_buildSlice hgd 28 60 1 #[(0, x)] hop l.toArray i _ Tryz.underlying28 hi hz0 (by rw [hz1]; decide) (by rw [hz1]; decide) ?_ h
  rw [hz1]
  have hs : (Value.agg l.toArray).cells.size = 272 := by
    show l.toArray.size = 272
    rw [List.size_toArray, hl.len]
  have hfw := Go.Great.fill_whole (s := 272) (by decide) [Value.agg l.toArray] ((Array.range (1 * 272)).map ((Value.agg Tryz.zeroCells60).cells[· % (Value.agg Tryz.zeroCells60).cells.size]!)) (by simpa using hs) (by simp)
  have e : (Array.map (fun p : Nat × Operand => (p.1, a.eval p.2)) #[(0, x)]).toList = ([Value.agg l.toArray].zipIdx 0).map fun x => (x.2, x.1) := by simp [hx]
  have e2 : (([Value.agg l.toArray] : List Value).flatMap fun v => v.cells.toList).toArray = l.toArray := by simp [Value.cells]
  rw [e2] at hfw
  exact (congrArg _ e).trans hfw
theorem made_one : (madeCells #[Value.int .i64 0] 1).toList[0]? = some (.int .i64 0) := by
  simp only [madeCells, Array.toList_map, Array.toList_range, List.getElem?_map]
  rw [List.getElem?_range (by decide)]
  rfl
/-- Where Resolve stands. -/
structure ReS (w : World) (nb no cap : Nat) (l : List Value) (c g d : Nat) (v0 : Value) (q : Bool) : Prop where
  b0 : w.cell? ⟨c, 0, none⟩ = some (.slice (some ⟨nb, no, none⟩) 1 cap)
  pr : PrB w (c + 1) (.slice none 0 0) (.slice none 0 0) (.slice none 0 0) false
  qr : PrB w d v0 (.slice (some ⟨g, 0, none⟩) 1 1) (.slice none 0 0) q
  g0 : ∃ i : Int, w.cell? ⟨g, 0, none⟩ = some (.int .i64 i)
  gz : w.frozen? ⟨g, 0, none⟩ = false
  rg : w.rangeAt nb no l
  o1 : nb < c
  o2 : c + 1 < g
  o3 : g < d
section
variable {w w' : World} {nb no cap c g d : Nat} {l : List Value} {v0 : Value} {q : Bool}
theorem ReS.lt (h : ReS w nb no cap l c g d v0 q) : d < w.heap.size := h.qr.lt
theorem ReS.kept (h : ReS w nb no cap l c g d v0 q) (hb : ∀ k, k < w.heap.size → w'.heap[k]? = w.heap[k]?) (hs : w.heap.size ≤ w'.heap.size) : ReS w' nb no cap l c g d v0 q := by
  have := h.lt
  have := h.o1
  have := h.o2
  have := h.o3
  refine ⟨(World.cell?_of_block (a := ⟨c, 0, none⟩) (hb c (by omega))).trans h.b0, h.pr.same (hb _ (by omega)) hs, h.qr.same (hb _ (by omega)) hs, ?_, (World.frozen?_of_block (w := w) (a := ⟨g, 0, none⟩) (hb g (by omega))).trans h.gz, fun j v hv => (World.cell?_of_block (a := ⟨nb, no + j, none⟩) (hb nb (by omega))).trans (h.rg j v hv), h.o1, h.o2, h.o3⟩
  obtain ⟨i, e⟩ := h.g0
  exact ⟨i, (World.cell?_of_block (a := ⟨g, 0, none⟩) (hb g (by omega))).trans e⟩
theorem ReS.below (h : ReS w nb no cap l c g d v0 q) (hb : Below w.heap.size w w') : ReS w' nb no cap l c g d v0 q := h.kept (fun k hk => hb.block k hk) hb.size
theorem ReS.setG (h : ReS w nb no cap l c g d v0 q) (i : Int) : ReS (w.setCell ⟨g, 0, none⟩ (.int .i64 i)) nb no cap l c g d v0 q := by
  have := h.lt
  have := h.o1
  have := h.o2
  have := h.o3
  have hb : ∀ k, k ≠ g → (w.setCell ⟨g, 0, none⟩ (.int .i64 i)).heap[k]? = w.heap[k]? := fun k hk => Below.heap_setCell _ _ _ _ hk
  have hs : w.heap.size ≤ (w.setCell ⟨g, 0, none⟩ (.int .i64 i)).heap.size := by simp [World.setCell]
  obtain ⟨j, e⟩ := h.g0
  exact ⟨(World.cell?_of_block (a := ⟨c, 0, none⟩) (hb c (by omega))).trans h.b0, h.pr.same (hb _ (by omega)) hs, h.qr.same (hb _ (by omega)) hs, ⟨i, World.cell?_setCell_same _ _ _ e⟩, (World.frozen?_setCell _ _ _ _).trans h.gz, fun j v hv => (World.cell?_of_block (a := ⟨nb, no + j, none⟩) (hb nb (by omega))).trans (h.rg j v hv), h.o1, h.o2, h.o3⟩
theorem ReS.setD (h : ReS w nb no cap l c g d v0 q) (v : Value) : ReS (w.setCell ⟨d, 0, none⟩ v) nb no cap l c g d v q := by
  have := h.lt
  have := h.o1
  have := h.o2
  have := h.o3
  have hb : ∀ k, k ≠ d → (w.setCell ⟨d, 0, none⟩ v).heap[k]? = w.heap[k]? := fun k hk => Below.heap_setCell _ _ _ _ hk
  have hs : w.heap.size ≤ (w.setCell ⟨d, 0, none⟩ v).heap.size := by simp [World.setCell]
  obtain ⟨j, e⟩ := h.g0
  exact ⟨(World.cell?_of_block (a := ⟨c, 0, none⟩) (hb c (by omega))).trans h.b0, h.pr.same (hb _ (by omega)) hs, h.qr.set0 v, ⟨j, (World.cell?_of_block (a := ⟨g, 0, none⟩) (hb g (by omega))).trans e⟩, (World.frozen?_setCell _ _ _ _).trans h.gz, fun j v hv => (World.cell?_of_block (a := ⟨nb, no + j, none⟩) (hb nb (by omega))).trans (h.rg j v hv), h.o1, h.o2, h.o3⟩
set_option maxRecDepth 100000 in
set_option maxHeartbeats 12800000 in
theorem resolve_1 (hp : PcV l) (hr : w.rangeAt nb no l) (hn : nb < w.heap.size) (q : Bool) : Calls Tryz.prog 18 #[.slice (some ⟨nb, no, none⟩) 1 cap, .bool q] w fun e w' =>
    (∃ pb cc g l', e = .returned (.tuple #[.agg #[.slice (some ⟨pb, 0, none⟩) 1 cc, .slice (some ⟨g, 0, none⟩) 1 1, .slice none 0 0, .bool q], .int .i64 0, .int .i64 0]) ∧ CmP w' pb l' ∧ w.heap.size ≤ pb ∧ w'.cell? ⟨g, 0, none⟩ = some (.int .i64 (-1))) ∧ Below w.heap.size w w' := by
  have hmf : ∀ (fn : Fn) (first cap : Array Value) (w : World), (Instr.makeFunc fn first cap).run Tryz.prog w = .ok (.func fn first cap) w := fun _ _ _ _ => rfl
  have HPC := Lib.hid hp
  have hb0 : (w.alloc (.cells #[.slice (some ⟨nb, no, none⟩) 1 cap] 28)).cell? ⟨w.heap.size, 0, none⟩ = some (.slice (some ⟨nb, no, none⟩) 1 cap) := new_cell _ _ _ 0
  have e1 : (w.alloc (.cells #[.slice (some ⟨nb, no, none⟩) 1 cap] 28)).heap.size = w.heap.size + 1 := by simp
  have hp := PrB.new (w.alloc (.cells #[.slice (some ⟨nb, no, none⟩) 1 cap] 28)) (.slice none 0 0) (.slice none 0 0) (.slice none 0 0) false
  rw [e1] at hp
  have hba : Below w.heap.size w ((w.alloc (.cells #[.slice (some ⟨nb, no, none⟩) 1 cap] 28)).alloc (.cells #[.slice none 0 0, .slice none 0 0, .slice none 0 0, .bool false] 32)) := ((Below.refl _ _).alloc (Nat.le_refl _) _).alloc (by simp) _
  have hb1 := (World.cell?_of_block (w := w.alloc (.cells #[.slice (some ⟨nb, no, none⟩) 1 cap] 28)) (w' := (w.alloc (.cells #[.slice (some ⟨nb, no, none⟩) 1 cap] 28)).alloc (.cells #[.slice none 0 0, .slice none 0 0, .slice none 0 0, .bool false] 32)) (a := ⟨w.heap.size, 0, none⟩) (heap_alloc_old _ _ (new_lt _ _))).trans hb0
  have HB := Lib.hid hba
  have H0 := Lib.hid hb1
  have HP := Lib.hid hp
  have HR : Hid (World.rangeAt ((w.alloc (.cells #[.slice (some ⟨nb, no, none⟩) 1 cap] 28)).alloc (.cells #[.slice none 0 0, .slice none 0 0, .slice none 0 0, .bool false] 32)) nb no l) := Lib.hid fun j v hv => (hba.cell (p := ⟨nb, no + j, none⟩) hn).trans (hr j v hv)
  have HN := Lib.hid hn
  clear hb0 hb1 e1 hp hba hr hn
  go_enter Tryz.func18, Tryz.ntmps18
  go_upto_region 1 with fail
  obtain ⟨W, hW⟩ : ∃ W, (w.alloc (.cells #[.slice (some ⟨nb, no, none⟩) 1 cap] 28)).alloc (.cells #[.slice none 0 0, .slice none 0 0, .slice none 0 0, .bool false] 32) = W := ⟨_, rfl⟩
  rw [hW] at HB H0 HP HR ⊢
  clear hW
  obtain ⟨c, hcz⟩ : ∃ c, w.heap.size = c := ⟨_, rfl⟩
  rw [hcz] at HB H0 HP HN ⊢
  have HCZ := Lib.hid hcz
  clear hcz
  have b0 := H0.out
  have hl : c < W.heap.size := World.block_lt_of_cell? _ _ b0
  have hl1 := HP.out.lt
  obtain ⟨i0, hi, hz0, hz1, hz2⟩ := info_parts (elIn).hi
  go_step3
  go_wp2_with (at_make; refine wpList_make_full _ rfl _ _ 29 rfl c 3 i0 _ 1 Tryz.underlying29 hi hz0 hz1 .i64 .i64 1 1 1 rfl rfl (by omega) (by omega) (by rw [hz2]; omega) (by unfold maxLen; omega) (by omega) ?_)
  intro w1 hown hgr
  have hb1 : Below W.heap.size W w1 := (Below.refl _ _).grown hgr (Nat.le_refl _) (fun k hk => by cases hk)
  obtain ⟨g, hg⟩ : ∃ g, W.heap.size = g := ⟨_, rfl⟩
  rw [hg] at hb1 hown ⊢
  have hg0 : w1.cell? ⟨g, 0, none⟩ = some (.int .i64 0) := (World.ownsRow.cellAt hown 0 (by decide)).trans made_one
  have hgz : w1.frozen? ⟨g, 0, none⟩ = false := World.ownsRow.frozenAt hown 0
  have HG0 := Lib.hid hg0
  have HGZ := Lib.hid hgz
  have HB1 := Lib.hid (HB.out.trans (hb1.mono (by omega)))
  have H1 := Lib.hid ((hb1.cell (p := ⟨c, 0, none⟩) (by show c < g; omega)).trans H0.out)
  have HP1 := Lib.hid (HP.out.same (hb1.block _ (by omega)) (by have := hb1.size; omega))
  have HR1 : Hid (w1.rangeAt nb no l) := Lib.hid fun j v hv => (hb1.cell (p := ⟨nb, no + j, none⟩) (by show nb < g; have := HN.out; omega)).trans (HR.out j v hv)
  have HO2 : Hid (c + 1 < g) := Lib.hid (by omega)
  have HGL : Hid (g < w1.heap.size) := Lib.hid (World.block_lt_of_cell? _ _ hg0)
  clear hgr hb1 hi hz0 hz1 hz2 b0 hl hl1 hg HB H0 HP HR hown hg0 hgz
  have b0 := H1.out
  have hl : c < w1.heap.size := World.block_lt_of_cell? _ _ b0
  have HQ := Lib.hid (PrB.new w1 (.slice none 0 0) (.slice (some ⟨g, 0, none⟩) 1 1) (.slice none 0 0) q)
  have hba : Below w1.heap.size w1 ((w1.alloc (.cells #[.slice none 0 0, .slice (some ⟨g, 0, none⟩) 1 1, .slice none 0 0, .bool q] 32))) := (Below.refl _ _).alloc (Nat.le_refl _) _
  have HS : Hid (ReS (w1.alloc (.cells #[.slice none 0 0, .slice (some ⟨g, 0, none⟩) 1 1, .slice none 0 0, .bool q] 32)) nb no cap l c g w1.heap.size (.slice none 0 0) q) := Lib.hid ⟨(hba.cell (p := ⟨c, 0, none⟩) hl).trans b0, HP1.out.below hba, HQ.out, ⟨0, (hba.cell (p := ⟨g, 0, none⟩) HGL.out).trans HG0.out⟩, (World.frozen?_of_block (w := w1) (a := ⟨g, 0, none⟩) (hba.block g HGL.out)).trans HGZ.out, fun j v hv => (hba.cell (p := ⟨nb, no + j, none⟩) (by show nb < _; have := HN.out; omega)).trans (HR1.out j v hv), HN.out, HO2.out, HGL.out⟩
  have HB2 := Lib.hid (HB1.out.trans (hba.mono (by omega)))
  go_upto_region 2 with fail
  obtain ⟨V, hV⟩ : ∃ V, w1.alloc (.cells #[.slice none 0 0, .slice (some ⟨g, 0, none⟩) 1 1, .slice none 0 0, .bool q] 32) = V := ⟨_, rfl⟩
  rw [hV] at HB2 HS ⊢
  clear hV hba b0 HB1 H1 HP1 HQ HR1 HG0 HGZ HGL HO2 hl
  obtain ⟨d, hd⟩ : ∃ d, w1.heap.size = d := ⟨_, rfl⟩
  rw [hd] at HS ⊢
  clear hd
  go_wp2_with (refine wpList_mkm rfl _ rfl ?_)
  go_step3
  have hbm : Below V.heap.size V (V.alloc (.map #[] 0)) := (Below.refl _ _).alloc (Nat.le_refl _) _
  have HS3 := Lib.hid (HS.out.below hbm)
  have HB3 := Lib.hid (HB2.out.trans (hbm.mono (by have := HS.out.lt; have := HS.out.o2; have := HS.out.o3; omega)))
  obtain ⟨U, hU⟩ : ∃ U, V.alloc (.map #[] 0) = U := ⟨_, rfl⟩
  obtain ⟨mp, hmp⟩ : ∃ mp, V.heap.size = mp := ⟨_, rfl⟩
  rw [hU] at HB3 HS3 ⊢
  rw [hmp]
  clear hU hbm HB2 HS hmp
  have b0 := HS3.out.b0
  have hl : c < U.heap.size := World.block_lt_of_cell? _ _ b0
  go_wp2_with fail
  go_loopg [5, 6, 10, 28] 2 (fun gk ev av ov kv wr => ev = .int .i64 0 ∧ av = .int .i64 0 ∧ ov = .slice none 0 0 ∧ ∃ i : Nat, kv = .int .i64 (i : Nat) ∧ gk = 2 - i ∧ Below c w wr ∧ ((i = 0 ∧ ReS wr nb no cap l c g d (.slice none 0 0) q) ∨ (i = 1 ∧ ∃ pb cc l', ReS wr nb no cap l c g d (.slice (some ⟨pb, 0, none⟩) 1 cc) q ∧ CmP wr pb l' ∧ c ≤ pb ∧ pb ≠ c + 1 ∧ wr.cell? ⟨g, 0, none⟩ = some (.int .i64 (-1)))))
  case atStart => exact ⟨rfl, rfl, rfl, 0, rfl, rfl, HB3.out, .inl ⟨rfl, HS3.out⟩⟩
  case round =>
  obtain ⟨rfl, rfl, rfl, i, rfl, hgk, hbw, hcs⟩ := hrel
  have HGK := Lib.hid hgk
  have HBW := Lib.hid hbw
  clear hgk hbw HB3 HS3 b0 hl
  rcases hcs with ⟨rfl, hs⟩ | ⟨rfl, pb, cc, l2, hs, hcm, hpb, hpc, hg1⟩
  · have HS := Lib.hid hs
    clear hs
    have HCI : Hid ((Tryz.prog.info? 60).map (·.size) = some l.length) := Lib.hid (by rw [HPC.out.cl.len]; exact cmd_info)
    have HSZ := Lib.hid (cmb_info HPC.out.cl)
    have HSO : Hid (Tryz.zeroCells60.size = l.toArray.size) := Lib.hid (by rw [← Array.length_toList, List.size_toArray, cmd_size, HPC.out.cl.len])
    have HON : Hid (l.toArray.all (·.oneCell') = true) := Lib.hid (by rw [← Array.all_toList, List.all_eq_true]; simpa using HPC.out.cl.one)
    have HHN := Lib.hid (heap_alloc_new wr (.cells Tryz.zeroCells60 60))
    have HRG := Lib.hid HS.out.rg
    have b0 := HS.out.b0
    have hbe : Below wr.heap.size wr ((wr.alloc (.cells Tryz.zeroCells60 60)).setRow wr.heap.size l.toArray) := below_row ((Below.refl _ _).alloc (Nat.le_refl _) _) (Nat.le_refl _) _
    have HE : Hid (CmB ((wr.alloc (.cells Tryz.zeroCells60 60)).setRow wr.heap.size l.toArray) wr.heap.size l) := Lib.hid ⟨setRow_heap _ _ _ _ _ _ HHN.out, HPC.out.cl⟩
    have HS1 := Lib.hid (HS.out.below hbe)
    have HB1 := Lib.hid (HBW.out.trans (hbe.mono (by have := HS.out.lt; have := HS.out.o2; have := HS.out.o3; omega)))
    have hcw : c < wr.heap.size := World.block_lt_of_cell? _ _ b0
    go_upto_region 8 with (first | refine wpList_load_mid rfl 60 _ rfl nb no rfl l _ HRG.out Tryz.underlying60 rfl HCI.out ?_ | refine wpList_store_row rfl 60 _ _ rfl wr.heap.size l.toArray rfl rfl _ _ HHN.out HSZ.out HSO.out HON.out ?_)
    obtain ⟨X1, hX⟩ : ∃ X, (wr.alloc (.cells Tryz.zeroCells60 60)).setRow wr.heap.size l.toArray = X := ⟨_, rfl⟩
    rw [hX] at HE HS1 HB1 ⊢
    obtain ⟨e, he⟩ : ∃ e, wr.heap.size = e := ⟨_, rfl⟩
    rw [he] at HE ⊢
    have HED : Hid (d < e) := Lib.hid (by rw [← he]; exact HS.out.lt)
    clear hX hbe hcw b0 HRG HHN HSO HON he HS HBW
    have d1 := HS1.out.qr.c1
    have hdl := HS1.out.lt
    obtain ⟨gi, g0⟩ := HS1.out.g0
    have gz := HS1.out.gz
    have hgl : g < X1.heap.size := World.block_lt_of_cell? _ _ g0
    have HS2 := Lib.hid (HS1.out.setG (-1))
    have HE2 := Lib.hid (cmb_other HE.out (show e ≠ g by have := HS1.out.o3; have := HED.out; omega) 0 (.int .i64 (-1)))
    have HB2 := Lib.hid (HB1.out.setCell (p := ⟨g, 0, none⟩) (by show c ≤ g; have := HS1.out.o2; omega) (.int .i64 (-1)))
    have HG2 : Hid ((X1.setCell ⟨g, 0, none⟩ (.int .i64 (-1))).cell? ⟨g, 0, none⟩ = some (.int .i64 (-1))) := Lib.hid (World.cell?_setCell_same _ _ _ g0)
    go_upto_region 9 with fail
    obtain ⟨X2, hX⟩ : ∃ X, X1.setCell ⟨g, 0, none⟩ (.int .i64 (-1)) = X := ⟨_, rfl⟩
    rw [hX] at HS2 HE2 HB2 HG2 ⊢
    clear hX d1 hdl g0 gz hgl HS1 HE HB1
    have HSH := Lib.hid (shaped_p (w := X2) HPC.out)
    go_wp2_with (refine wpList_load_row rfl 60 _ rfl e rfl 60 l.toArray (0, 0) _ HE2.out.heap Tryz.underlying60 rfl HSZ.out ?_)
    refine HSH.out.mono ?_; rintro e3 X3 ⟨rfl, hb3⟩
    have HS3 := Lib.hid (HS2.out.below hb3)
    have HE3 := Lib.hid (HE2.out.below hb3)
    have HB3 := Lib.hid (HB2.out.trans (hb3.mono (by have := HS2.out.lt; have := HS2.out.o2; have := HS2.out.o3; omega)))
    have HG3 := Lib.hid ((hb3.cell (p := ⟨g, 0, none⟩) (by have := HS2.out.lt; have := HS2.out.o3; show g < _; omega)).trans HG2.out)
    clear hb3 HS2 HE2 HB2 HG2 HSH
    have HWR := Lib.hid (writes_p (w := X3) HPC.out.nm HPC.out.cl)
    have k7 : X3.cell? ⟨e, 7, none⟩ = some (.int .u8 112) := (HE3.out.cell 7).trans HPC.out.nm
    have hel := HE3.out.lt
    go_wp2_with (refine wpList_load_row_g rfl 60 _ rfl e rfl 60 l.toArray (0, 0) _ HE3.out.heap Tryz.underlying60 rfl HSZ.out ?_)
    refine HWR.out.mono ?_; rintro e4 X4 ⟨rfl, hb4⟩
    have HS4 := Lib.hid (HS3.out.below hb4)
    have HE4 := Lib.hid (HE3.out.below hb4)
    have HB4 := Lib.hid (HB3.out.trans (hb4.mono (by have := HS3.out.lt; have := HS3.out.o2; have := HS3.out.o3; omega)))
    have HG4 := Lib.hid ((hb4.cell (p := ⟨g, 0, none⟩) (by have := HS3.out.lt; have := HS3.out.o3; show g < _; omega)).trans HG3.out)
    clear hb4 HS3 HE3 HB3 HG3 HWR k7 hel
    go_upto_region 15 with fail
    have d0 := HS4.out.qr.c0
    have hdl := HS4.out.lt
    have hel := HE4.out.lt
    have HRE := Lib.hid HE4.out.row2
    have HCL := Lib.hid (clone_p (w := X4.drew) HPC.out)
    refine wp_region_segs (X := none) 5 [([0, 1, 2], 3), ([], 4)] [] (by kernel_rfl) (by kernel_rfl) rfl (fun _ _ _ _ _ h => h) ?_
    simp only [wpSegs, pickSegs_nil, pickSegs_cons, pickOps_nil, pickOps_cons, List.getD_cons_zero, List.getD_cons_succ, List.drop_succ_cons, List.drop_zero]
    go_big_quiet_step (fail)
    go_big_quiet_step (fail)
    go_big_quiet_want
    refine quiet_mid 60 _ rfl e 0 rfl l _ HRE.out hel Tryz.underlying60 rfl HCI.out ?_
    go_big_quiet_on
    simp only [Act.put, List.setIfInBounds_toArray, List.set_cons_succ, List.set_cons_zero]
    refine wpQuiet_nil ?_
    have hbd : Below X4.heap.size X4 X4.drew := (Below.refl _ _).drew
    have HSD := Lib.hid (HS4.out.below hbd)
    have HED4 := Lib.hid (HE4.out.below hbd)
    have HBD := Lib.hid (HB4.out.drew)
    have HGD : Hid (X4.drew.cell? ⟨g, 0, none⟩ = some (.int .i64 (-1))) := HG4
    clear hbd d0 hdl hel HRE HS4 HE4 HB4 HG4
    go_wp2_with fail
    refine HCL.out.mono ?_; rintro e5 X5 ⟨⟨l5, rfl, hc5⟩, hb5⟩
    have HC5 := Lib.hid hc5
    have HB5 := Lib.hid hb5
    have HS5 := Lib.hid (HSD.out.below hb5)
    have HE5 := Lib.hid (HED4.out.below hb5)
    have HBB5 := Lib.hid (HBD.out.trans (hb5.mono (by have := HSD.out.lt; have := HSD.out.o2; have := HSD.out.o3; omega)))
    have HG5 := Lib.hid ((hb5.cell (p := ⟨g, 0, none⟩) (by have := HSD.out.lt; have := HSD.out.o3; show g < _; omega)).trans HGD.out)
    clear hc5 hb5 HSD HED4 HBD HGD HCL
    dsimp only
    go_wp2_with fail
    refine ⟨Keeps.of_below HB5.out, ?_⟩
    repeat (go_big_quiet_step (fail))
    refine wpQuiet_nil ?_
    go_wp2_with (refine wpList_one rfl _ rfl rfl HC5.out.cl ?_)
    refine ⟨keeps_alloc _ _, ?_⟩
    repeat (go_big_quiet_step (fail))
    refine wpQuiet_nil ?_
    have hba : Below X5.heap.size X5 (X5.alloc (.cells l5.toArray 60)) := (Below.refl _ _).alloc (Nat.le_refl _) _
    have HS6 := Lib.hid (HS5.out.below hba)
    have HE6 := Lib.hid (HE5.out.below hba)
    have HB6 := Lib.hid (HBB5.out.trans (hba.mono (by have := HS5.out.lt; have := HS5.out.o2; have := HS5.out.o3; omega)))
    have HG6 := Lib.hid ((hba.cell (p := ⟨g, 0, none⟩) (by have := HS5.out.lt; have := HS5.out.o3; show g < _; omega)).trans HG5.out)
    have HC2 : Hid (c + 2 ≤ X5.heap.size) := Lib.hid (by have := HS5.out.lt; have := HS5.out.o2; have := HS5.out.o3; omega)
    clear hba HS5 HE5 HBB5 HG5
    go_wp2_with (at_builtin; refine wpList_app elCm rfl _ _ rfl (c + 2) (n := 0) (m := 1) (xs := []) (news := l5) rfl (World.ownsRow_nil _ _ _ _) rfl (Src.new X5 l5 _ _ _) (by rw [HC5.out.cl.len]) HC5.out.cl.one (by unfold maxLen; omega) (by omega) (by have := HC2.out; simp; omega) ?_)
    intro v7 X7 ho7 hg7 hr7
    obtain ⟨o7, k7, rfl⟩ := own_form ho7
    obtain ⟨_, pb, rfl, hpb, hcell, _⟩ := own_some ho7 (by decide)
    have hpge := (ho7.lt pb rfl).1
    have hb7 : Below (X5.alloc (.cells l5.toArray 60)).heap.size (X5.alloc (.cells l5.toArray 60)) X7 := (Below.refl _ _).grown hg7 (Nat.le_refl _) (fun k hk => by cases hk)
    have HS7 := Lib.hid (HS6.out.below hb7)
    have HE7 := Lib.hid (HE6.out.below hb7)
    have HB7 := Lib.hid (HB6.out.trans (hb7.mono (by have := HC2.out; simp; omega)))
    have HG7 := Lib.hid ((hb7.cell (p := ⟨g, 0, none⟩) (by have := HS6.out.lt; have := HS6.out.o3; show g < _; omega)).trans HG6.out)
    have HP7 : Hid (CmP X7 pb l5) := Lib.hid ⟨hpb, HC5.out.cl, fun j v hv => by
      have hj : j < 272 := by have := (List.getElem?_eq_some_iff.1 hv).1; rw [HC5.out.cl.len] at this; exact this
      obtain ⟨u, e1, e2⟩ := hcell j (by omega)
      rw [hv] at e1
      cases e1
      rw [Nat.zero_add]; exact e2, HC5.out.ka, HC5.out.nt, HC5.out.nm, HC5.out.r⟩
    have HPG := Lib.hid hpge
    have HPD : Hid (pb ≠ d) := Lib.hid (by
      rcases hr7 with q1 | q1
      · cases q1
      · have q2 : pb = X5.heap.size + 1 := Option.some.inj q1
        have := HS6.out.lt
        have q3 : (X5.alloc (.cells l5.toArray 60)).heap.size = X5.heap.size + 1 := by simp
        omega)
    have d0 := HS7.out.qr.c0
    have dz := HS7.out.qr.fz 0
    have hdl := HS7.out.lt
    have HS8 := Lib.hid (HS7.out.setD (.slice (some ⟨pb, 0, none⟩) 1 k7))
    have hbk : ∀ k, k ≠ d → (X7.setCell ⟨d, 0, none⟩ (.slice (some ⟨pb, 0, none⟩) 1 k7)).heap[k]? = X7.heap[k]? := fun k hk => Below.heap_setCell _ _ _ _ hk
    have hsz : X7.heap.size ≤ (X7.setCell ⟨d, 0, none⟩ (.slice (some ⟨pb, 0, none⟩) 1 k7)).heap.size := by simp [World.setCell]
    have HE8 := Lib.hid (HE7.out.block (hbk e (by have := HED.out; omega)))
    have HP8 := Lib.hid (HP7.out.same (hbk pb HPD.out) hsz)
    have HB8 := Lib.hid (HB7.out.setCell (p := ⟨d, 0, none⟩) (by show c ≤ d; have := HS7.out.o2; have := HS7.out.o3; omega) (.slice (some ⟨pb, 0, none⟩) 1 k7))
    have HG8 := Lib.hid ((World.cell?_of_block (a := ⟨g, 0, none⟩) (hbk g (by have := HS7.out.o3; omega))).trans HG7.out)
    clear hb7 ho7 hg7 hr7 hpb hcell hpge hbk hsz HS6 HE6 HB6 HG6
    go_upto_region 16 with fail
    obtain ⟨X8, hX⟩ : ∃ X, X7.setCell ⟨d, 0, none⟩ (.slice (some ⟨pb, 0, none⟩) 1 k7) = X := ⟨_, rfl⟩
    rw [hX] at HS8 HE8 HP8 HB8 HG8 ⊢
    clear hX d0 dz hdl HS7 HE7 HP7 HB7 HG7
    have k7' : X8.cell? ⟨e, 7, none⟩ = some (.int .u8 112) := (HE8.out.cell 7).trans HPC.out.nm
    have hel := HE8.out.lt
    have HWR := Lib.hid (writes_p (w := X8) HPC.out.nm HPC.out.cl)
    go_upto_region 31 with fail
    go_wp2_with (refine wpList_load_row rfl 60 _ rfl e rfl 60 l.toArray (0, 0) _ HE8.out.heap Tryz.underlying60 rfl HSZ.out ?_)
    refine HWR.out.mono ?_; rintro e9 X9 ⟨rfl, hb9⟩
    have HS9 := Lib.hid (HS8.out.below hb9)
    have HP9 := Lib.hid (HP8.out.same (hb9.block pb HP8.out.lt) hb9.size)
    have HB9 := Lib.hid (HB8.out.trans (hb9.mono (by have := HS8.out.lt; have := HS8.out.o2; have := HS8.out.o3; omega)))
    have HG9 := Lib.hid ((hb9.cell (p := ⟨g, 0, none⟩) (by have := HS8.out.lt; have := HS8.out.o3; show g < _; omega)).trans HG8.out)
    clear hb9 HS8 HE8 HP8 HB8 HG8 HWR k7' hel
    go_wp2_with fail
    go_roundg 1
    case measure => have := HGK.out; omega
    case rel => exact ⟨rfl, rfl, rfl, 1, rfl, rfl, HB9.out, .inr ⟨rfl, pb, k7, l5, HS9.out, HP9.out, by have := HPG.out; omega, by have := HPG.out; omega, HG9.out⟩⟩
  · have HS := Lib.hid hs
    have HP := Lib.hid hcm
    have HPB := Lib.hid (And.intro hpb hpc)
    have HG := Lib.hid hg1
    have b0 := hs.b0
    have hcl : c < wr.heap.size := World.block_lt_of_cell? _ _ b0
    clear hs hcm hpb hpc hg1
    go_wp2_with fail
    rename World => X
    go_loopg [5, 6, 183] 2 (fun gk ev av kv wr => ev = .int .i64 0 ∧ av = .int .i64 0 ∧ ∃ j : Nat, kv = .int .i64 (j : Nat) ∧ gk = 2 - j ∧ j ≤ 1 ∧ Below X.heap.size X wr)
    case atStart => exact ⟨rfl, rfl, 0, rfl, rfl, by decide, Below.refl _ _⟩
    case round =>
    obtain ⟨rfl, rfl, j, rfl, hgk, hj1, hbw⟩ := hrel
    have HS2 := Lib.hid (HS.out.below hbw)
    have HP2 := Lib.hid (HP.out.same (hbw.block pb HP.out.lt) hbw.size)
    have HB2 := Lib.hid (HBW.out.trans (hbw.mono (by have := HS.out.lt; have := HS.out.o2; have := HS.out.o3; omega)))
    have HG2 := Lib.hid ((hbw.cell (p := ⟨g, 0, none⟩) (by have := HS.out.lt; have := HS.out.o3; show g < _; omega)).trans HG.out)
    have HBW2 := Lib.hid hbw
    have HGK2 := Lib.hid hgk
    clear hbw hgk b0 hcl HGK
    by_cases hj : j = 0
    · subst hj
      have HCI : Hid ((Tryz.prog.info? 60).map (·.size) = some l.length) := Lib.hid (by rw [HPC.out.cl.len]; exact cmd_info)
      have HSZ := Lib.hid (cmb_info HPC.out.cl)
      have HSO : Hid (Tryz.zeroCells60.size = l.toArray.size) := Lib.hid (by rw [← Array.length_toList, List.size_toArray, cmd_size, HPC.out.cl.len])
      have HON : Hid (l.toArray.all (·.oneCell') = true) := Lib.hid (by rw [← Array.all_toList, List.all_eq_true]; simpa using HPC.out.cl.one)
      have HHN := Lib.hid (heap_alloc_new wr (.cells Tryz.zeroCells60 60))
      have HRG := Lib.hid HS2.out.rg
      have hbe : Below wr.heap.size wr ((wr.alloc (.cells Tryz.zeroCells60 60)).setRow wr.heap.size l.toArray) := below_row ((Below.refl _ _).alloc (Nat.le_refl _) _) (Nat.le_refl _) _
      have HE : Hid (CmB ((wr.alloc (.cells Tryz.zeroCells60 60)).setRow wr.heap.size l.toArray) wr.heap.size l) := Lib.hid ⟨setRow_heap _ _ _ _ _ _ HHN.out, HPC.out.cl⟩
      have HBE := Lib.hid hbe
      clear hbe
      go_upto_region 40 with (first | refine wpList_load_mid rfl 60 _ rfl nb no rfl l _ HRG.out Tryz.underlying60 rfl HCI.out ?_ | refine wpList_store_row rfl 60 _ _ rfl wr.heap.size l.toArray rfl rfl _ _ HHN.out HSZ.out HSO.out HON.out ?_)
      obtain ⟨X1, hX⟩ : ∃ X, (wr.alloc (.cells Tryz.zeroCells60 60)).setRow wr.heap.size l.toArray = X := ⟨_, rfl⟩
      rw [hX] at HE HBE ⊢
      obtain ⟨e, he⟩ : ∃ e, wr.heap.size = e := ⟨_, rfl⟩
      have HBF : Hid (Below X.heap.size X X1) := Lib.hid (HBW2.out.trans (HBE.out.mono HBW2.out.size))
      rw [he] at HE ⊢
      clear hX he HRG HHN HSO HON HBE
      have k7 : X1.cell? ⟨e, 7, none⟩ = some (.int .u8 112) := (HE.out.cell 7).trans HPC.out.nm
      have hel := HE.out.lt
      go_wp2_with fail
      go_roundg 1
      case measure => have := HGK2.out; omega
      case rel => exact ⟨rfl, rfl, 1, rfl, rfl, by decide, HBF.out⟩
    obtain rfl : j = 1 := by omega
    clear hj hj1
    have d0 := HS2.out.qr.c0
    have d1 := HS2.out.qr.c1
    have d2 := HS2.out.qr.c2
    have d3 := HS2.out.qr.c3
    have hdl := HS2.out.qr.lt
    have p0 := HS2.out.pr.c0
    have p1 := HS2.out.pr.c1
    have p2 := HS2.out.pr.c2
    have p3 := HS2.out.pr.c3
    have hpl := HS2.out.pr.lt
    have fz := HS2.out.pr.fz
    go_wp2_with fail
    rw [Exit.noGoto_ret]
    have hf := HS2.out.pr.put (.slice (some ⟨pb, 0, none⟩) 1 cc) (.slice (some ⟨g, 0, none⟩) 1 1) (.slice none 0 0) q
    have hbf := (((HB2.out.setCell (p := ⟨c + 1, 0, none⟩) (by show c ≤ c + 1; omega) (.slice (some ⟨pb, 0, none⟩) 1 cc)).setCell (p := ⟨c + 1, 1, none⟩) (by show c ≤ c + 1; omega) (.slice (some ⟨g, 0, none⟩) 1 1)).setCell (p := ⟨c + 1, 2, none⟩) (by show c ≤ c + 1; omega) (.slice none 0 0)).setCell (p := ⟨c + 1, 3, none⟩) (by show c ≤ c + 1; omega) (.bool q)
    have hk : ∀ k, k ≠ c + 1 → ((((wr.setCell ⟨c + 1, 0, none⟩ (.slice (some ⟨pb, 0, none⟩) 1 cc)).setCell ⟨c + 1, 1, none⟩ (.slice (some ⟨g, 0, none⟩) 1 1)).setCell ⟨c + 1, 2, none⟩ (.slice none 0 0)).setCell ⟨c + 1, 3, none⟩ (.bool q)).heap[k]? = wr.heap[k]? := fun k hk => by
      rw [Below.heap_setCell _ _ _ _ hk, Below.heap_setCell _ _ _ _ hk, Below.heap_setCell _ _ _ _ hk, Below.heap_setCell _ _ _ _ hk]
    refine ret_res rfl rfl rfl rfl hf.c0 hf.c1 hf.c2 hf.c3 ⟨⟨pb, cc, g, l2, rfl, HP2.out.same (hk pb HPB.out.2) (by simp [World.setCell]), by rw [HCZ.out]; exact HPB.out.1, (World.cell?_of_block (a := ⟨g, 0, none⟩) (hk g (by have := HS2.out.o2; omega))).trans HG2.out⟩, ?_⟩
    rw [HCZ.out]
    exact hbf
end
end Go.Proofs.YtdinjlglngpecaaGreatDoor
