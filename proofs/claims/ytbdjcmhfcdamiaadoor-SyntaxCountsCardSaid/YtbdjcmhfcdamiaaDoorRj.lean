/- Contracts of package syntax's reader: group, given its sides. -/
import Derived.Test.YtbdjcmhfcdamiaaDoorRi
namespace Go.Proofs.YtbdjcmhfcdamiaaDoor
open Go.RowKit

/-- The contracts of the functions that call one another, where k more groups may be open. -/
def GroupP (rb : Nat) (ere : Bool) (mb mo cap : Nat) (L : List Mk) (k : Nat) : Prop := ∀ (w : World) (s : Rst) (ev : Value) (fb : Bool), RdS w rb ere mb mo cap L s k ev → s.i + wideB ere ≤ L.length →
  Calls Tryd.prog 75 #[.pointer (some ⟨rb, 0, none⟩), .bool fb] w (Post w rb ere mb mo cap L k ev (withTrue (groupL ere L k s)) (AtomR w))
def SidesP (rb : Nat) (ere : Bool) (mb mo cap : Nat) (L : List Mk) (k : Nat) : Prop := ∀ (w : World) (s : Rst) (ev : Value), RdS w rb ere mb mo cap L s k ev →
  Calls Tryd.prog 50 #[.pointer (some ⟨rb, 0, none⟩)] w (Post w rb ere mb mo cap L k ev (sidesK ere L k s) (NdRow w))
def RowP (rb : Nat) (ere : Bool) (mb mo cap : Nat) (L : List Mk) (k : Nat) : Prop := ∀ (w : World) (s : Rst) (ev : Value), RdS w rb ere mb mo cap L s k ev →
  Calls Tryd.prog 76 #[.pointer (some ⟨rb, 0, none⟩)] w (Post w rb ere mb mo cap L k ev (rowS ere (k == 64) L (groupL ere L k) s) fun a v w' ev' => ∃ v1, v = .tuple #[.int .i64 (a.1 : Nat), v1] ∧ NdRow w a.2 v1 w' ev')

section
variable {rb : Nat} {ere : Bool} {mb mo cap : Nat} {L : List Mk}
set_option maxRecDepth 100000 in
set_option maxHeartbeats 1600000 in
theorem group_zero : GroupP rb ere mb mo cap L 0 := by
  intro w s ev fb hv hs
  have c2 := hv.c2
  have c4 := hv.c4
  have rbl := hv.lt
  simp only [Nat.sub_zero, show ((64 : Nat) : Int) = 64 from rfl] at c4
  clear hv
  go_enter Tryd.func75, Tryd.ntmps75
  go_wp2_with fail
  refine (give_any 46 s.i rfl rfl _).mono ?_; rintro e w9 ⟨rfl, rfl⟩
  go_wp2_with fail
  exact ⟨rfl, RBut.refl _ _ _, rfl⟩

set_option maxRecDepth 100000 in
set_option maxHeartbeats 1600000 in
theorem group_succ {k : Nat} (hk : k < 64) (ih : SidesP rb ere mb mo cap L k) : GroupP rb ere mb mo cap L (k + 1) := by
  intro w s ev fb hv hs
  have hlen := hv.m.len
  have hw := wideB_le ere
  have hw0 := wideB_pos ere
  have hz := sgn_size ere 40
  have hz2 := sgn_size ere 41
  have hu := hv.m.u
  have HG := Lib.hid (groupL_succ ere L k hk s)
  have c2 := hv.c2
  have c3 := hv.c3
  have c4 := hv.c4
  have f3 := hv.fz 3
  have rbl := hv.lt
  have hel := hv.el
  obtain ⟨o, ho⟩ : ∃ o : Nat, 64 - (k + 1) = o := ⟨_, rfl⟩
  rw [ho] at c4
  have HO := Lib.hid ho
  have hne4 : ¬ ((o : Int) = 64) := by omega
  have hle4 : (o : Int) ≤ 63 := by omega
  clear ho
  obtain ⟨oa, oc, hev⟩ := hv.form
  have HV := Lib.hid hv
  have HEV := Lib.hid hev
  rw [hev] at c3
  clear hv hev
  by_cases h255 : s.ended.length = 255
  · have h255' : ((s.ended.length : Nat) : Int) = 255 := by omega
    have HF : Hid (withTrue (groupL ere L (k + 1) s) = .no 47 s.i) := by rw [Hid, HG.out, if_pos h255]; rfl
    clear hu
    go_enter Tryd.func75, Tryd.ntmps75
    go_wp2_with fail
    refine (give_any 47 s.i rfl rfl _).mono ?_; rintro e w9 ⟨rfl, rfl⟩
    go_wp2_with fail
    exact ⟨rfl, RBut.refl _ _ _, by rw [HF.out]; rfl⟩
  have h255' : ¬ ((s.ended.length : Nat) : Int) = 255 := by omega
  have HU := Lib.hid hu
  clear hu
  go_enter Tryd.func75, Tryd.ntmps75
  go_wp2_with (at_builtin; refine wpList_app elBo rfl _ _ rfl (rb + 1) rfl ((HEV.out ▸ HV.out.own).alloc _) rfl (Src.new w [.bool false] _ _ _) rfl (by simp [Value.oneCell']) (by unfold maxLen; omega) (by omega) (by simp; omega) ?_)
  intro v1 w1 hown1 hgr1 hblk1
  have hvA := HV.out.alloc (.cells #[.bool false] 4)
  rw [← HEV.out] at hgr1 hblk1
  have hgb : w1.heap[rb]? = (w.alloc (.cells #[.bool false] 4)).heap[rb]? := hgr1.block rb hvA.lt (hvA.not_rb (Nat.le_refl _))
  have hr1 := hvA.pushEnded hgr1 (ev' := v1) (en := s.ended ++ [false]) (by simpa using hown1) (by simp; omega)
  have hn1 : newOr w ev.ownBlock v1.ownBlock := by
    rcases hblk1 with h | h
    · exact .inl h
    · exact .inr fun g hg => by rw [h] at hg; cases hg; omega
  have hb1 := ((((RBut.refl rb ev.ownBlock w).alloc (.cells #[.bool false] 4)).grown (newOr.refl _ _) hgr1).store 3 v1)
  have D2 := (World.cell?_of_block (a := ⟨rb, 2, none⟩) hgb).trans hvA.c2
  have D3 := (World.cell?_of_block (a := ⟨rb, 3, none⟩) hgb).trans hvA.c3
  have D4 := (World.cell?_of_block (a := ⟨rb, 4, none⟩) hgb).trans hvA.c4
  rw [HO.out] at D4
  have F3 := (World.frozen?_of_block (a := ⟨rb, 3, none⟩) hgb).trans (hvA.fz 3)
  have F4 := (World.frozen?_of_block (a := ⟨rb, 4, none⟩) hgb).trans (hvA.fz 4)
  obtain ⟨g1, cp1, hv1, hg1, _⟩ := hr1.row (by simp)
  have hen : (s.ended ++ [false]).length = s.ended.length + 1 := by simp
  rw [hen] at hv1
  subst hv1
  have HN1 := Lib.hid hn1
  have hcast : ((64 - k : Nat) : Int) = (o : Int) + 1 := by have := HO.out; omega
  have hr2 := hr1.setOpen (k' := k) (by omega)
  have hb2 := hb1.store 4 (.int .i64 ((64 - k : Nat) : Int))
  rw [hcast] at hr2 hb2
  have HR2 := Lib.hid hr2
  have HB2 := Lib.hid hb2
  have rb1 : rb < w1.heap.size := by simpa [World.setCell] using hr1.lt
  clear hr2 hb2 hr1 hb1 hn1 hgb hvA hown1 hgr1 hblk1 c2 c3 c4 f3 rbl hcast
  go_upto_region 9 with fail
  revert HR2 HB2
  clear D2 D3 D4 F3 F4 rb1
  generalize (w1.setCell ⟨rb, 3, none⟩ (.slice (some ⟨g1, 0, none⟩) (s.ended.length + 1) cp1)).setCell ⟨rb, 4, none⟩ (.int .i64 ((o : Int) + 1)) = W2
  intro HR2 HB2
  have c0 := HR2.out.c0
  have c2 := HR2.out.c2
  have f2 := HR2.out.fz 2
  have rbl := HR2.out.lt
  simp only at c2
  refine wp_region_segs (X := none) 10 [([0, 1, 2, 3, 4], 5)] [6, 7, 8, 9] (by kernel_rfl) (by kernel_rfl) rfl (fun _ _ _ _ _ h => h) ?_
  simp only [wpSegs, pickSegs_nil, pickSegs_cons, pickOps_nil, pickOps_cons, List.getD_cons_zero, List.getD_cons_succ, List.drop_succ_cons, List.drop_zero]
  repeat (go_big_quiet_step (fail))
  refine wpQuiet_nil ?_
  go_wp2_with fail
  refine (sign_as 40 (w := W2.drew) c0).mono ?_; rintro e w3 ⟨rfl, rfl⟩
  go_wp2_with fail
  refine ⟨Keeps.refl _, ?_⟩
  repeat (go_big_quiet_step (fail))
  refine wpQuiet_nil ?_
  go_wp2_with fail
  have hr3 := HR2.out.setAt (j := s.i + wideB ere) hs
  have hb3 := HB2.out.store 2 (.int .i64 ((s.i + wideB ere : Nat) : Int))
  rw [Int.natCast_add] at hr3 hb3
  obtain ⟨N, hN⟩ : ∃ N : Int, (s.ended.length : Int) + 1 = N := ⟨_, rfl⟩
  have hx : groupN (s.ended.length + 1) = ⟨7, Cls.zero, N, 0, 0, 1⟩ := by rw [groupN, Int.natCast_add, show ((1 : Nat) : Int) = 1 from rfl, hN]
  have HX := Lib.hid hx
  have HNN := Lib.hid hN
  rw [hN]
  have hl3 := (Nds.lit (W2.setCell ⟨rb, 2, none⟩ (.int .i64 ((s.i : Int) + (wideB ere : Int)))) w.heap.size ⟨7, Cls.zero, N, 0, 0, 1⟩ hb3.size)
  have hr4 := (hr3.alloc (.cells (ndCells ⟨7, Cls.zero, N, 0, 0, 1⟩) 77)).drew
  have hb4 := (hb3.alloc (.cells (ndCells ⟨7, Cls.zero, N, 0, 0, 1⟩) 77)).drew
  have hsz3 : (W2.setCell ⟨rb, 2, none⟩ (.int .i64 ((s.i : Int) + (wideB ere : Int)))).heap.size = W2.heap.size := by simp
  rw [hsz3] at hl3
  have hsz4 : ∀ o : Obj, ((W2.setCell ⟨rb, 2, none⟩ (.int .i64 ((s.i : Int) + (wideB ere : Int)))).alloc o).drew.heap.size = W2.heap.size + 1 := fun o => by
    show ((W2.setCell ⟨rb, 2, none⟩ (.int .i64 ((s.i : Int) + (wideB ere : Int)))).alloc o).heap.size = _
    simp
  have hlt1 := HR2.out.evlt g1 rfl
  have hW2 := HB2.out.size
  have hrw : rb < w.heap.size := HV.out.lt
  clear hN hx hr3 hb3
  refine (ih _ _ _ hr4).mono ?_
  rintro e w5 ⟨hb5, hp5⟩
  cases hsd : sidesK ere L k ⟨s.i + wideB ere, s.ended ++ [false]⟩ with
  | no er p =>
    have HF : Hid (withTrue (groupL ere L (k + 1) s) = .no er p) := by rw [Hid, HG.out, if_neg h255, hsd]; rfl
    rw [hsd] at hp5
    simp only [faults] at hp5
    subst hp5
    have HBT := Lib.hid (hb4.trans HN1.out hb5)
    clear hb4 hb5 hr4 hl3
    go_wp2_with fail
    exact ⟨rfl, HBT.out, by rw [HF.out]; rfl⟩
  | ok re t =>
    have HG1 : Hid (groupL ere L (k + 1) s = if t.i = L.length then .no 41 s.i else .ok (groupN (s.ended.length + 1) :: re) ⟨t.i + wideB ere, t.ended.set s.ended.length true⟩) := by rw [Hid, HG.out, if_neg h255, hsd]
    have hri := sidesK_rise HU.out k (by simpa using hs) hsd
    have hsm := sidesK_small HU.out k (by simpa using hs) hsd
    have hst := sidesK_stop k hsd
    have hti := hri.le
    have hen2 := hri.ended
    rw [hen] at hen2
    rw [hsd] at hp5
    simp only at hp5 hsm
    obtain ⟨v5, ev5, rfl, hr5, hn5, hrow5⟩ := hp5
    have hbT := hb4.trans HN1.out hb5
    have hnT := HN1.out.trans hb4.size hn5
    have hl5 := hl3.drew.but hb5 hrw (fun g hg => by simp only [Value.ownBlock, Option.some.injEq, ne_eq] at hg ⊢; omega)
    have hev5 : ∀ g, ev5.ownBlock = some g → g ≠ W2.heap.size := fun g hg => by
      rcases hn5 with h | h
      · rw [h] at hg; simp only [Value.ownBlock, Option.some.injEq] at hg; omega
      · have h' := h g hg
        rw [hsz4] at h'
        omega
    have hrw5 := hbT.size
    clear hb4 hb5 hr4 hl3 hn5 hri hsd
    go_wp2_with (at_builtin; refine wpList_nds rfl _ _ rfl w.heap.size rfl hl5 rfl hrow5.nds.src (by simp only [List.length_singleton]; omega) hrw5 ?_)
    intro v6 w6 hnd6 hgr6 hblk6
    have hr6 := hr5.beside hgr6 (fun g hg => by simp only [Value.ownBlock, Option.some.injEq] at hg; omega) (fun g hg => by have := hev5 g hg; simp only [Value.ownBlock, ne_eq, Option.some.injEq]; omega)
    have hb6 := hbT.beside hgr6 (fun g hg => by simp only [Value.ownBlock, Option.some.injEq] at hg; omega)
    have hrow6 : NdRow w (groupN (s.ended.length + 1) :: re) v6 w6 ev5 := by
      rw [HX.out]
      refine ⟨hnd6, fun g hg he => ?_⟩
      have h7 := hev5 g he.symm
      have h8 := hr5.evlt g he.symm
      rcases hblk6 with h | h
      · rw [h] at hg; simp only [Value.ownBlock, Option.some.injEq] at hg; omega
      · rw [h] at hg; simp only [Option.some.injEq] at hg; omega
    obtain ⟨g5, cp5, hv5, hg5, hg5l⟩ := hr6.row (by omega)
    have HR6 := Lib.hid hr6
    have HB6 := Lib.hid hb6
    have HN5 := Lib.hid hnT
    have HROW := Lib.hid hrow6
    have HV5 := Lib.hid hv5
    have HST := Lib.hid hst
    have c0 := hr6.c0
    have c1 := hr6.c1
    have c2 := hr6.c2
    have c3 := hr6.c3
    have c4 := hr6.c4
    have rbl := hr6.lt
    have f2 := hr6.fz 2
    have f4 := hr6.fz 4
    rw [hv5] at c3
    have fg : w6.frozen? ⟨g5, s.ended.length, none⟩ = false := World.ownsRow.frozenAt (hv5 ▸ hr6.own) _
    have cg : w6.cell? ⟨g5, s.ended.length, none⟩ = some (.bool (t.ended.getD s.ended.length false)) := by
      rw [World.ownsRow.cellAt (hv5 ▸ hr6.own) _ (by omega)]
      simp [List.getD_eq_getElem?_getD, show s.ended.length < t.ended.length by omega]
    have ho1 : ((64 - k : Nat) : Int) = (o : Int) + 1 := by have := HO.out; omega
    rw [ho1] at c4
    have hNI := HNN.out
    have hne5 : ¬ rb = g5 := by omega
    clear hr6 hb6 hnT hrow6 hv5 hst hnd6 hgr6 hblk6 hr5 hbT hl5 hev5 hrow5 ho1
    subst hNI
    by_cases hend : t.i = L.length
    · have HF : Hid (withTrue (groupL ere L (k + 1) s) = .no 41 s.i) := by rw [Hid, HG1.out, if_pos hend]; rfl
      have hend' : (t.i : Int) = (L.length : Int) := by omega
      go_wp2_with fail
      refine wp_region_segs (X := none) 10 [] [0, 1, 2, 3, 4, 5, 6, 7, 8, 9] (by kernel_rfl) (by kernel_rfl) rfl (fun _ _ _ _ _ h => h) ?_
      simp only [wpSegs, pickSegs_nil, pickOps_nil, pickOps_cons, List.getD_cons_zero, List.getD_cons_succ, List.drop_succ_cons, List.drop_nil]
      repeat (go_big_quiet_step (fail))
      refine wpQuiet_nil ?_
      go_wp2_with fail
      refine (give_any 41 s.i rfl rfl _).mono ?_; rintro e w9 ⟨rfl, rfl⟩
      go_wp2_with fail
      exact ⟨rfl, HB6.out.drew, by rw [HF.out]; rfl⟩
    · have hti2 : t.i + wideB ere ≤ L.length := by
        rcases HST.out with h | h
        · omega
        · exact seesSign_le h.1
      have HF : Hid (withTrue (groupL ere L (k + 1) s) = .ok (groupN (s.ended.length + 1) :: re, true) ⟨t.i + wideB ere, t.ended.set s.ended.length true⟩) := by rw [Hid, HG1.out, if_neg hend]; rfl
      have hend' : ¬ (t.i : Int) = (L.length : Int) := by omega
      go_wp2_with fail
      refine wp_region_segs (X := none) 10 [] [0, 1, 2, 3, 4, 5, 6, 7, 8, 9] (by kernel_rfl) (by kernel_rfl) rfl (fun _ _ _ _ _ h => h) ?_
      simp only [wpSegs, pickSegs_nil, pickOps_nil, pickOps_cons, List.getD_cons_zero, List.getD_cons_succ, List.drop_succ_cons, List.drop_nil]
      repeat (go_big_quiet_step (fail))
      refine wpQuiet_nil ?_
      go_wp2_with fail
      refine wp_region_segs (X := none) 10 [([0, 1, 2, 3, 4], 5)] [6, 7, 8, 9] (by kernel_rfl) (by kernel_rfl) rfl (fun _ _ _ _ _ h => h) ?_
      simp only [wpSegs, pickSegs_nil, pickSegs_cons, pickOps_nil, pickOps_cons, List.getD_cons_zero, List.getD_cons_succ, List.drop_succ_cons, List.drop_zero]
      repeat (go_big_quiet_step (fail))
      refine wpQuiet_nil ?_
      go_wp2_with fail
      refine (sign_as 41 (w := w6.drew.drew) c0).mono ?_; rintro e w7 ⟨rfl, rfl⟩
      go_wp2_with fail
      refine ⟨Keeps.refl _, ?_⟩
      repeat (go_big_quiet_step (fail))
      refine wpQuiet_nil ?_
      go_wp2_with fail
      go_ret2
      have hrA := HR6.out.setAt hti2
      have hbA := HB6.out.store 2 (.int .i64 ((t.i + wideB ere : Nat) : Int))
      rw [Int.natCast_add] at hrA hbA
      have hrB := hrA.setOpen (k' := k + 1) (by omega)
      have hbB := hbA.store 4 (.int .i64 ((64 - (k + 1) : Nat) : Int))
      rw [HO.out] at hrB hbB
      have hrZ := (hrB.note (HV5.out) s.ended.length).drew.drew
      have hbZ := (hbB.note HN5.out (g := g5) (by rw [HV5.out]; rfl) s.ended.length (.bool true)).drew.drew
      have n1 : ∀ g, v6.ownBlock = some g → g ≠ rb := fun g hg => by have := (HROW.out.lt g hg).1; omega
      have n2 : ∀ g, v6.ownBlock = some g → g ≠ g5 := fun g hg e => HROW.out.2 g hg (by rw [HV5.out, e]; rfl)
      refine ⟨hbZ, ?_⟩
      rw [HF.out]
      exact ⟨_, ev5, rfl, hrZ, HN5.out, _, rfl, (((HROW.out.store n1 _ _).store n1 _ _).store n2 _ _).drew.drew⟩
end
end Go.Proofs.YtbdjcmhfcdamiaaDoor
