/- Contract of package step: command (p). No condition. -/
import Derived.Test.YtdinjlglngpecaaGreatDoorSn
namespace Go.Proofs.YtdinjlglngpecaaGreatDoor
open Go.RowKit

section
variable {w w' w2 : World} {k : CK} {s s' : CS} {T T' X : List Nat} {pk pk' : Option Nat} {base : Nat} {mu : Bool} {oa : Option Addr} {m ca n n' u u' z z' : Nat} {O O' : Nat → Option Nat} {A A' : List Nat}
theorem neq_func (f : Fn) (a b : Array Value) (w : World) : (binOp .neq 79 (.func f a b) .nilFunc).run Tryz.prog w = .ok (.bool true) w := by kernel_rfl
/-- command's boxes. -/
structure CoX (w : World) (k : CK) (c : Nat) : Prop where
  lt : c + 1 < w.heap.size
  b0 : w.cell? ⟨c, 0, none⟩ = some (.pointer (some ⟨k.cb, 0, none⟩))
  b1 : w.cell? ⟨c + 1, 0, none⟩ = some (.int .i64 0)
theorem CoX.keep {c : Nat} (h : CoX w k c) {S : Nat → Prop} (hk : Kept w w' S) (h0 : ¬ S c) (h1 : ¬ S (c + 1)) : CoX w' k c :=
  ⟨Nat.lt_of_lt_of_le h.lt hk.size, (hk.cell (p := ⟨c, 0, none⟩) (by have := h.lt; show c < _; omega) h0).trans h.b0, (hk.cell (p := ⟨c + 1, 0, none⟩) h.lt h1).trans h.b1⟩
theorem CoX.below {c : Nat} (h : CoX w k c) (hb : Below w.heap.size w w') : CoX w' k c :=
  h.keep (Kept.of_below hb (fun x => w.heap.size ≤ x) fun _ e _ => e) (by have := h.lt; omega) (by have := h.lt; omega)
set_option maxRecDepth 100000 in
set_option maxHeartbeats 3200000 in
theorem scommand_call (h : StS w k s T pk base mu oa m ca n u z O A) (hn : k.nc = 1) (hz : z ≤ 549755813888) (hu : u ≤ 549755813888) (hA : A.length ≤ 274877906944) (hs0 : 0 ≤ s.st) (hs1 : s.st ≤ 1099511627776) :
    Calls Tryz.prog 27 #[.pointer (some ⟨k.cb, 0, none⟩), .int .i64 0] w fun e w' => e = .returned (.int .i64 0) ∧ ∃ O', StS w' k { s with st := s.st + 1, nx := 1 } T pk base mu oa m ca n (u + 1) (z + (T.length + 8)) O' (A ++ (T ++ [10])) ∧ Grw w w' (sfoot k O pk) (sfoot k O' pk) := by
  obtain ⟨fl, pl, nx, st, er, si⟩ := s
  dsimp only at hs0 hs1 ⊢
  have hmf : ∀ (fn : Fn) (first cap : Array Value) (w : World), (Instr.makeFunc fn first cap).run Tryz.prog w = .ok (.func fn first cap) w := fun _ _ _ _ => rfl
  have HZ := Lib.hid hz
  have HU := Lib.hid hu
  have HA := Lib.hid hA
  have hN := hn
  have HN := Lib.hid hN
  obtain ⟨hoc, hp1, hp2, _⟩ := h.ma.cm hn
  have HOC := Lib.hid hoc
  obtain ⟨Y, hY⟩ : ∃ Y, A ++ (T ++ [10]) = Y := ⟨_, rfl⟩
  have HY := Lib.hid hY
  rw [hY]
  have hba : Below w.heap.size w ((w.alloc (.cells #[.pointer (some ⟨k.cb, 0, none⟩)] 71)).alloc (.cells #[.int .i64 0] 3)) := ((Below.refl _ _).alloc (Nat.le_refl _) _).alloc (by simp) _
  have H1 := Lib.hid (h.below hba)
  have HB1 := Lib.hid hba
  have HCX : Hid (CoX ((w.alloc (.cells #[.pointer (some ⟨k.cb, 0, none⟩)] 71)).alloc (.cells #[.int .i64 0] 3)) k w.heap.size) := Lib.hid ⟨by simp, by
      rw [cell_of_row _ _ 0 _ _ (0, 0) ((heap_alloc_old (w.alloc (.cells #[.pointer (some ⟨k.cb, 0, none⟩)] 71)) _ (r := w.heap.size) (by simp)).trans (heap_alloc_new w _))]; rfl, by
      have e := heap_alloc_new (w.alloc (.cells #[.pointer (some ⟨k.cb, 0, none⟩)] 71)) (.cells #[.int .i64 0] 3)
      have q : (w.alloc (.cells #[.pointer (some ⟨k.cb, 0, none⟩)] 71)).heap.size = w.heap.size + 1 := by simp
      rw [q] at e
      rw [cell_of_row _ _ 0 _ _ (0, 0) e]; rfl⟩
  have HCT := Lib.hid h.ma.co.lt
  clear h hz hu hA hN hoc hY hba hp1 hp2
  go_enter Tryz.func27, Tryz.ntmps27
  go_upto_region 1 with fail
  obtain ⟨W, hW⟩ : ∃ W, (w.alloc (.cells #[.pointer (some ⟨k.cb, 0, none⟩)] 71)).alloc (.cells #[.int .i64 0] 3) = W := ⟨_, rfl⟩
  rw [hW] at H1 HB1 HCX ⊢
  clear hW
  obtain ⟨c, hcz⟩ : ∃ c, w.heap.size = c := ⟨_, rfl⟩
  rw [hcz] at HCX HCT HB1 ⊢
  have HCZ := Lib.hid hcz
  clear hcz
  have b0 := HCX.out.b0
  have b1 := HCX.out.b1
  have hc1 := HCX.out.lt
  have c11 := H1.out.ma.co.get 10 rfl
  have hc := H1.out.ma.co.lt
  have z11 := H1.out.ma.co.fz 269
  dsimp only at c11
  go_upto_region 2 with fail
  obtain ⟨hm2, hk2⟩ := H1.out.ma.set 10 rfl (.int .i64 (st + 1)) (s' := ⟨fl, pl, nx, st + 1, er, si⟩) rfl
  obtain ⟨hs2, hg2⟩ := H1.out.mach hm2 hk2 (.inl rfl)
  have HS2 := Lib.hid hs2
  have HG2 := Lib.hid (((Grw.refl w (sfoot k O pk)).below (HCZ.out ▸ HB1.out)).trans hg2)
  have HX2 := Lib.hid (HCX.out.keep (Kept.setCell W ⟨k.cb, 269, none⟩ (.int .i64 (st + 1))) (by show c ≠ k.cb; have := HCT.out; omega) (by show c + 1 ≠ k.cb; have := HCT.out; omega))
  obtain ⟨V, hV⟩ : ∃ V, W.setCell ⟨k.cb, 269, none⟩ (.int .i64 (st + 1)) = V := ⟨_, rfl⟩
  rw [hV] at HS2 HG2 HX2 ⊢
  clear hV hm2 hk2 hs2 hg2 b0 b1 hc1 c11 hc z11 HB1 H1 HCX
  have b0 := HX2.out.b0
  have b1 := HX2.out.b1
  have hc1 := HX2.out.lt
  have hc0 : c < V.heap.size := by omega
  have hc := HS2.out.ma.co.lt
  have c1 := HS2.out.ma.co.get 1 rfl
  rw [HOC.out, HN.out] at c1
  refine wp_region_segs (X := none) 8 [([0, 1, 2, 3, 4, 5, 6], 7)] [] (by kernel_rfl) (by kernel_rfl) rfl (fun _ _ _ _ _ h => h) ?_
  simp only [wpSegs, pickSegs_nil, pickSegs_cons, pickOps_nil, pickOps_cons, List.getD_cons_zero, List.getD_cons_succ, List.drop_succ_cons, List.drop_zero]
  repeat (go_big_quiet_step (fail))
  refine wpQuiet_nil ?_
  go_wp2_with fail
  refine ⟨keeps_alloc _ _, ?_⟩
  repeat (go_big_quiet_step (fail))
  refine wpQuiet_nil ?_
  go_upto_region 4 with fail
  have hba : Below V.heap.size V (V.alloc (.cells #[.pointer (some ⟨k.pb, 0, none⟩)] 135)).drew := ((Below.refl _ _).alloc (Nat.le_refl _) _).drew
  have HS3 := Lib.hid (HS2.out.below hba)
  have HG3 := Lib.hid (HG2.out.below hba)
  have HX3 := Lib.hid (HX2.out.below hba)
  have HB5 : Hid ((V.alloc (.cells #[.pointer (some ⟨k.pb, 0, none⟩)] 135)).drew.cell? ⟨V.heap.size, 0, none⟩ = some (.pointer (some ⟨k.pb, 0, none⟩))) := Lib.hid (by
    show (V.alloc (.cells #[.pointer (some ⟨k.pb, 0, none⟩)] 135)).cell? ⟨V.heap.size, 0, none⟩ = _
    rw [cell_of_row _ _ 0 _ _ (0, 0) (heap_alloc_new V (.cells #[.pointer (some ⟨k.pb, 0, none⟩)] 135))]; rfl)
  obtain ⟨d, hd⟩ : ∃ d, V.heap.size = d := ⟨_, rfl⟩
  have HDL : Hid (d < (V.alloc (.cells #[.pointer (some ⟨k.pb, 0, none⟩)] 135)).drew.heap.size ∧ c + 1 < d) := Lib.hid ⟨by rw [← hd]; show V.heap.size < (V.alloc _).heap.size; simp, by omega⟩
  obtain ⟨X, hX⟩ : ∃ X, (V.alloc (.cells #[.pointer (some ⟨k.pb, 0, none⟩)] 135)).drew = X := ⟨_, rfl⟩
  rw [hX] at HS3 HG3 HX3 HB5 HDL ⊢
  rw [hd] at HB5 ⊢
  clear hX hba hd HS2 HG2 HX2 b0 b1 hc1 hc0 hc c1
  have b0 := HX3.out.b0
  have b1 := HX3.out.b1
  have b2 := HB5.out
  have hc1 := HX3.out.lt
  have hc0 : c < X.heap.size := by omega
  have hc2 := HDL.out.1
  have hc := HS3.out.ma.co.lt
  have c5 := HS3.out.ma.co.get 3 rfl
  have c9 := HS3.out.ma.co.get 5 rfl
  obtain ⟨_, _, _, l, hcm⟩ := HS3.out.ma.cm HN.out
  have HCM := Lib.hid hcm
  have HCI : Hid ((Tryz.prog.info? 60).map (·.size) = some l.length) := Lib.hid (by rw [hcm.cl.len]; exact cmd_info)
  have hpl := hcm.lt
  have HRL := Lib.hid hcm.row
  obtain ⟨og, cg, hga⟩ := HS3.out.ma.ga
  have hgl : k.gb < X.heap.size := by have := HS3.out.ma.or1; have := HS3.out.ma.mlt; omega
  clear hcm
  refine wp_region_segs (X := none) 25 [([0, 1, 2, 3, 4, 5, 6, 7, 8, 9, 10, 11, 13, 14, 15, 16, 18], 12), ([], 17), ([], 19)] [20, 21, 22, 23, 24] (by kernel_rfl) (by kernel_rfl) rfl (fun _ _ _ _ _ h => h) ?_
  simp only [wpSegs, pickSegs_nil, pickSegs_cons, pickOps_nil, pickOps_cons, List.getD_cons_zero, List.getD_cons_succ, List.drop_succ_cons, List.drop_nil]
  go_big_quiet_step (fail)
  go_big_quiet_step (fail)
  go_big_quiet_step (fail)
  go_big_quiet_step (fail)
  go_big_quiet_step (fail)
  go_big_quiet_step (fail)
  go_big_quiet_step (fail)
  go_big_quiet_want
  refine quiet_mid 60 _ rfl k.pb 0 rfl l _ HRL.out hpl Tryz.underlying60 rfl HCI.out ?_
  go_big_quiet_on
  simp only [Act.put, List.setIfInBounds_toArray, List.set_cons_succ, List.set_cons_zero]
  repeat (go_big_quiet_step (fail))
  refine wpQuiet_nil ?_
  have hbd : Below X.heap.size X X.drew := (Below.refl _ _).drew
  have HSD := Lib.hid (HS3.out.below hbd)
  have HGD := Lib.hid (HG3.out.below hbd)
  have HXD := Lib.hid (HX3.out.below hbd)
  have HBD := Lib.hid ((hbd.cell (p := ⟨d, 0, none⟩) hc2).trans b2)
  have HGA := Lib.hid ((hbd.cell (p := ⟨k.gb, 0, none⟩) hgl).trans hga)
  have HLN := Lib.hid (wline_call HSD.out.wl)
  have HLA := Lib.hid (last_call HSD.out.wl)
  obtain ⟨R, hR⟩ : ∃ R, decide (0 < n ∧ m ≤ n) = R := ⟨_, rfl⟩
  rw [hR] at HLA
  have HKA := Lib.hid HCM.out.ka
  have HNT := Lib.hid HCM.out.nt
  clear hR hbd b0 b1 b2 hc1 hc0 hc2 hc c5 c9 hga hgl hpl HRL HCI HS3 HG3 HX3 HB5
  have hm1 := mLine
  go_wp2_with fail
  refine HLN.out.mono ?_; rintro e wq ⟨rfl, hwq⟩
  subst hwq
  clear hm1
  go_wp2_with fail
  refine ⟨Keeps.refl _, ?_⟩
  repeat (go_big_quiet_step (fail))
  refine wpQuiet_nil ?_
  have hm2 := mLast
  go_wp2_with fail
  refine HLA.out.mono ?_; rintro e w4 ⟨rfl, hb4⟩
  have HB4 := Lib.hid hb4
  clear hm2 hb4
  go_wp2_with fail
  refine ⟨Keeps.of_below HB4.out, ?_⟩
  repeat (go_big_quiet_step (fail))
  refine wpQuiet_nil ?_
  have HTK : ∀ (ln : Int), Hid _ := fun ln => Lib.hid (takes_none (w := w4) (cs := l.toArray) (by simpa using HKA.out) (by simpa using HNT.out) ((HB4.out.cell (p := ⟨k.gb, 0, none⟩) (by have := HSD.out.ma.or1; have := HSD.out.ma.mlt; show k.gb < _; omega)).trans HGA.out) (by rw [HN.out]; decide) ln R (.func 65) #[] #[.pointer (some ⟨c, 0, none⟩), .pointer (some ⟨c + 1, 0, none⟩), .pointer (some ⟨d, 0, none⟩)])
  go_wp2_with fail
  refine (HTK _).out.mono ?_; rintro e w5 ⟨rfl, hb5⟩
  have HS5 := Lib.hid ((HSD.out.below HB4.out).below hb5)
  have HG5 := Lib.hid ((HGD.out.below HB4.out).below hb5)
  have HX5 := Lib.hid ((HXD.out.below HB4.out).below hb5)
  have HBD5 := Lib.hid (((HB4.out.trans (hb5.mono HB4.out.size)).cell (p := ⟨d, 0, none⟩) HDL.out.1).trans HBD.out)
  have HDL5 : Hid (d < w5.heap.size ∧ c + 1 < d) := Lib.hid ⟨by have := HB4.out.size; have := hb5.size; have := HDL.out.1; have : X.heap.size = X.drew.heap.size := rfl; omega, HDL.out.2⟩
  go_wp2_with fail
  refine ⟨Keeps.of_below hb5, ?_⟩
  repeat (go_big_quiet_step (fail))
  refine wpQuiet_nil ?_
  clear hb5 HTK HLA HLN HB4 HSD HGD HXD HBD HGA HKA HNT HCM HDL
  have b0 := HX5.out.b0
  have b1 := HX5.out.b1
  have hc1 := HX5.out.lt
  have hc0 : c < w5.heap.size := by omega
  have c9 := HS5.out.ma.co.get 9 rfl
  have z9 := HS5.out.ma.co.fz 268
  have hc := HS5.out.ma.co.lt
  obtain ⟨hm2, hk2⟩ := HS5.out.ma.set 9 rfl (.int .i64 1) (s' := ⟨fl, pl, 1, st + 1, er, si⟩) rfl
  obtain ⟨hs2, hg2⟩ := HS5.out.mach hm2 hk2 (.inl rfl)
  have HS6 := Lib.hid hs2
  have HG6 := Lib.hid (HG5.out.trans hg2)
  have HX6 := Lib.hid (HX5.out.keep (Kept.setCell w5 ⟨k.cb, 268, none⟩ (.int .i64 1)) (by show c ≠ k.cb; have := HCT.out; omega) (by show c + 1 ≠ k.cb; have := HCT.out; omega))
  have HBD6 := Lib.hid ((World.cell?_of_block (w := w5) (w' := w5.setCell ⟨k.cb, 268, none⟩ (.int .i64 1)) (a := ⟨d, 0, none⟩) (Below.heap_setCell _ _ _ _ (by show d ≠ k.cb; have := HCT.out; have := HDL5.out; omega))).trans HBD5.out)
  have HDL6 : Hid (d < (w5.setCell ⟨k.cb, 268, none⟩ (.int .i64 1)).heap.size) := Lib.hid (by have := HDL5.out.1; simpa [World.setCell] using this)
  clear hm2 hk2 hs2 hg2
  go_upto_region 6 with fail
  obtain ⟨U, hU⟩ : ∃ U, w5.setCell ⟨k.cb, 268, none⟩ (.int .i64 1) = U := ⟨_, rfl⟩
  rw [hU] at HS6 HG6 HX6 HBD6 HDL6 ⊢
  clear hU b0 b1 hc1 hc0 c9 z9 hc HS5 HG5 HX5 HBD5 HDL5
  have b0 := HX6.out.b0
  have b1 := HX6.out.b1
  have b2 := HBD6.out
  have hc1 := HX6.out.lt
  have hc0 : c < U.heap.size := by omega
  have hc2 := HDL6.out
  have hc := HS6.out.ma.co.lt
  have c22 := HS6.out.ma.co.get 6 rfl
  obtain ⟨_, _, _, l6, hcm⟩ := HS6.out.ma.cm HN.out
  have n7 : U.cell? ⟨k.pb, 7, none⟩ = some (.int .u8 112) := by simpa using hcm.row 7 _ hcm.nm
  have hpl := hcm.lt
  clear hcm
  have hnq := neq_func
  refine wp_region_segs (X := none) 14 [] [0, 1, 2, 3, 4, 5, 6, 7, 8, 9, 10, 11, 12, 13] (by kernel_rfl) (by kernel_rfl) rfl (fun _ _ _ _ _ h => h) ?_
  simp only [wpSegs, pickSegs_nil, pickOps_nil, pickOps_cons, List.getD_cons_zero, List.getD_cons_succ, List.drop_succ_cons, List.drop_nil]
  repeat (go_big_quiet_step (fail))
  refine wpQuiet_nil ?_
  clear hnq
  have hbd : Below U.heap.size U U.drew := (Below.refl _ _).drew
  have HS7 := Lib.hid (HS6.out.below hbd)
  have HG7 := Lib.hid (HG6.out.below hbd)
  have HX7 := Lib.hid (HX6.out.below hbd)
  have HBD7 := Lib.hid ((hbd.cell (p := ⟨d, 0, none⟩) hc2).trans b2)
  have HDL7 : Hid (d < U.drew.heap.size) := HDL6
  obtain ⟨M, hM⟩ : ∃ M, U.drew = M := ⟨_, rfl⟩
  rw [hM] at HS7 HG7 HX7 HBD7 HDL7 ⊢
  clear hM hbd b0 b1 b2 hc1 hc0 hc2 hc c22 n7 hpl HS6 HG6 HX6 HBD6 HDL6
  have b0 := HX7.out.b0
  have b1 := HX7.out.b1
  have b2 := HBD7.out
  have hc1 := HX7.out.lt
  have hc0 : c < M.heap.size := by omega
  have hc2 := HDL7.out
  have hc := HS7.out.ma.co.lt
  have c22 := HS7.out.ma.co.get 6 rfl
  obtain ⟨_, _, _, l7, hcm⟩ := HS7.out.ma.cm HN.out
  have n7 : M.cell? ⟨k.pb, 7, none⟩ = some (.int .u8 112) := by simpa using hcm.row 7 _ hcm.nm
  have hpl := hcm.lt
  clear hcm
  have HP := Lib.hid (sprint_call (HS7.out.below (Below.refl _ _).drew) HZ.out HU.out HA.out (.int .i64 0) (.pointer (some ⟨k.pb, 0, none⟩)) (.bool false))
  rw [HY.out] at HP
  go_upto_region 7 with fail
  refine wp_region_segs (X := none) 12 [] [0, 1, 2, 3, 4, 5, 6, 7, 8, 9, 10, 11] (by kernel_rfl) (by kernel_rfl) rfl (fun _ _ _ _ _ h => h) ?_
  simp only [wpSegs, pickSegs_nil, pickOps_nil, pickOps_cons, List.getD_cons_zero, List.getD_cons_succ, List.drop_succ_cons, List.drop_zero]
  repeat (go_big_quiet_step (fail))
  refine wpQuiet_nil ?_
  go_wp2_with fail
  refine HP.out.mono ?_; rintro e w8 ⟨rfl, O8, hs, hg⟩
  have HS8 := Lib.hid hs
  have HG8 := Lib.hid ((HG7.out.below (Below.refl _ _).drew).trans hg)
  clear hs hg HP
  go_wp2_with fail
  go_ret
  exact ⟨rfl, O8, HS8.out, HG8.out⟩
end
end Go.Proofs.YtdinjlglngpecaaGreatDoor
