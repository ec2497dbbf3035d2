/- SyntaxPlain's walk: plain marks are their bytes. -/
import Derived.Test.YtbdjcmhfcdamiaaTh
import Derived.Test.YtbdjcmhfcdamiaaPb
namespace Go.Proofs.Ytbdjcmhfcdamiaa
open Go.RowKit Go.ChangeShapes Go.WideShapes Go.Deep

/-- Bytes that came in. -/
structure BsV (w : World) (oa : Option Addr) (l : List Nat) : Prop where
  u : ∀ i, i < l.length → l.getD i 0 < 256
  at_ : 0 < l.length → ∃ bb bo, oa = some ⟨bb, bo, none⟩ ∧ bb < w.heap.size ∧ ∀ i, i < l.length → w.cell? ⟨bb, bo + i, none⟩ = some (.int .u8 (l.getD i 0 : Nat))
theorem BsV.below {w w' : World} {oa : Option Addr} {l : List Nat} (h : BsV w oa l) (hb : Below w.heap.size w w') : BsV w' oa l :=
  ⟨h.u, fun hp => by
    obtain ⟨bb, bo, h1, h2, h3⟩ := h.at_ hp
    exact ⟨bb, bo, h1, Nat.lt_of_lt_of_le h2 hb.size, fun i hi => (hb.cell (p := ⟨bb, bo + i, none⟩) h2).trans (h3 i hi)⟩⟩
section
variable {H : Type} {enc : TypeId × Value → H} {w : World} {spare : Nat → Bool} {held : Bool}
theorem open_bytes {t : TypeId} {n : Nat} {v : Value} {x : DataW H × List MemPlace} (ht : Try.prog.underlying t = some (.slice 5)) (h : DataW.trod enc Try.prog w 0 spare held n t [v] = some x) : ∃ oa l cap, v = .slice oa l.length cap ∧ BsV w oa l := by
  rcases open_slice1 ht (by kernel_rfl) h with ⟨h0, _⟩ | ⟨a, len, cap, m, n', V, D, Pl, hcs, hb, hl, hm, hmm, hx, hi⟩
  · simp only [List.cons.injEq, and_true] at h0
    exact ⟨none, [], 0, h0, fun i hi => absurd hi (by simp), fun h => absurd h (by simp)⟩
  · simp only [List.cons.injEq, and_true] at hcs
    have hlm : len ≤ m := by rw [hmm]; split <;> omega
    obtain ⟨f, hf⟩ := choose_lt (α := Nat) (n := len) (p := fun i q => q < 256 ∧ w.cell? (a.add i) = some (.int .u8 (q : Nat))) (fun i hil => by
      obtain ⟨hc, ht'⟩ := hi i (by omega)
      obtain ⟨q, hq, _, wq⟩ := DataW.trod_int Try.underlying5 ht'
      simp only [List.cons.injEq, and_true] at hq
      have hba := bounds_u8 wq
      exact ⟨q.toNat, by omega, by rw [hc, hq, show ((q.toNat : Nat) : Int) = q by omega]⟩)
    have hL : ((List.range len).map f).length = len := by simp
    have hg : ∀ i, i < len → ((List.range len).map f).getD i 0 = f i := fun i hil => by simp [List.getD_eq_getElem?_getD, hil]
    refine ⟨some a, (List.range len).map f, cap, by rw [hL]; exact hcs, fun i hil => ?_, fun hp => ?_⟩
    · rw [hL] at hil
      rw [hg i hil]
      exact (hf i hil).1
    · rw [hL] at hp
      obtain ⟨b, off, spot⟩ := a
      have c0 := (hf 0 hp).2
      have hspot : spot = none := by simpa [Addr.add] using World.cell?_spot c0
      subst hspot
      have hadd : ∀ k, (⟨b, off, none⟩ : Addr).add k = ⟨b, off + k, none⟩ := fun k => by unfold Addr.add; split <;> simp_all
      refine ⟨b, off, rfl, cell_lt c0, fun i hil => ?_⟩
      rw [hL] at hil
      rw [hg i hil]
      have h1 := (hf i hil).2
      rw [hadd] at h1
      exact h1
end
/-- A bit of a byte's class, stored. -/
theorem ndAt.bit {w : World} {B b : Nat} (h : ndAt w B (setN Cls.zero)) (hb : b < 256) : ndAt (w.setCell ⟨B, 1 + b / 64, none⟩ (.int .u64 ((bit1 (b % 64)).toNat : Nat))) B (oneN b) := by
  have hc : Cls.of [b] = Cls.zero.add b := rfl
  have ho : ∀ x, orw 0#64 x = x := fun x => by unfold orw; simp
  have hq : b / 64 = 0 ∨ b / 64 = 1 ∨ b / 64 = 2 ∨ b / 64 = 3 := by omega
  unfold ndAt at h ⊢
  rcases hq with hq | hq | hq | hq
  all_goals
    simp only [World.setCell, Array.getElem?_modify, h, hq, oneN, hc, Cls.add, Cls.zero, Cls.set, Cls.word, ho, if_true, Option.map_some, ndCells, setN]
    rfl

/-- What stands ahead of the sets. -/
def catP (n : Nat) : List Nd := if 1 < n then [catN n] else []
theorem catP_nd (l : List Nat) : catP l.length ++ l.map oneN = plainNd l := by
  unfold catP plainNd
  split <;> rfl
set_option maxRecDepth 100000 in
set_option maxHeartbeats 1600000 in
theorem plain_walk (ere : Bool) {l : List Nat} {oa : Option Addr} {cap : Nat} {w : World} (hv : BsV w oa l) (hl1 : 0 < l.length) (hl2 : l.length ≤ 4096) :
    Calls Try.prog 8 #[.bool ere, .slice oa l.length cap] w fun e w' => e = .returned (.bool true) ∧ Below w.heap.size w w' := by
  have h1 : ((l.length : Int) == 0) = false := beq_eq_false_iff_ne.2 (by omega)
  have h2 : decide (4096 < (l.length : Int)) = false := decide_eq_false (by omega)
  have HV := Lib.hid hv
  have HP := Lib.hid (parseL_plain ere l hl1 hl2)
  clear hv
  go_enter Try.func8, Try.ntmps8
  go_upto_if 23 with fail
  go_cut [6] (fun v wd => Nds wd w.heap.size v (catP l.length) ∧ Below w.heap.size w wd)
  case first =>
    by_cases h3 : 1 < l.length
    · have h3' : (1 : Int) < (l.length : Int) := by omega
      go_wp2_with (at_builtin; refine wpList_nds rfl _ _ rfl w.heap.size rfl (Nds.nil _ _) (ys := [catN l.length]) rfl (Src.new w (ndsC [catN l.length]) _ _ _) (by simp) (by simp) ?_)
      intro v1 w2 hm2 hgr2 hblk2
      go_wp2_with fail
      go_meet
      exact ⟨by rw [catP, if_pos h3]; exact hm2, ((Below.refl w.heap.size w).alloc (Nat.le_refl _) _).grown hgr2 (by simp) (fun k hk => by cases hk)⟩
    · have h3' : ¬ (1 : Int) < (l.length : Int) := by omega
      go_wp2_with fail
      go_meet
      exact ⟨by rw [catP, if_neg h3]; exact Nds.nil _ _, Below.refl _ _⟩
  case rest =>
  obtain ⟨hn, hb⟩ := hcut
  have HN := Lib.hid hn
  have HB := Lib.hid hb
  clear hn hb
  go_wp2_with fail
  go_loopg [5, 6, 7] l.length (fun n mv nv iv wr => ∃ d : Nat, iv = .int .i64 (d : Nat) ∧ n = l.length - d ∧ d ≤ l.length ∧ Mks wr w.heap.size mv (plainM (l.take d)) ∧ Nds wr w.heap.size nv (catP l.length ++ (l.take d).map oneN) ∧ (∀ g, mv.ownBlock = some g → nv.ownBlock ≠ some g) ∧ Below w.heap.size w wr)
  case atStart => exact ⟨0, rfl, by omega, by omega, Mks.nil _ _, by simpa using HN.out, fun g hg => (by cases hg), HB.out⟩
  case round =>
    obtain ⟨d, rfl, hg, hd, hm, hn, hne, hb⟩ := hrel
    have HG := Lib.hid hg
    have HM := Lib.hid hm
    have HNN := Lib.hid hn
    have HE := Lib.hid hne
    have HBB := Lib.hid hb
    have hBs := hb.size
    clear hg hm hn hne hb
    by_cases hlt : d < l.length
    · have hlt' : (d : Int) < (l.length : Int) := by omega
      obtain ⟨bb, bo, hoa, hbl0, hc⟩ := HV.out.at_ hl1
      subst hoa
      have hbl : bb < wr.heap.size := Nat.lt_of_lt_of_le hbl0 hBs
      have hcd := (HBB.out.cell (p := ⟨bb, bo + d, none⟩) hbl0).trans (hc d hlt)
      have hu := HV.out.u d hlt
      have hq : l.getD d 0 = l[d] := by simp [List.getD_eq_getElem?_getD, hlt]
      have HT1 := Lib.hid (show plainM (l.take (d + 1)) = plainM (l.take d) ++ [⟨l.getD d 0, true⟩] by rw [List.take_add_one, List.getElem?_eq_getElem hlt, hq, plainM, List.map_append]; rfl)
      have HT2 := Lib.hid (show (l.take (d + 1)).map oneN = (l.take d).map oneN ++ [oneN (l.getD d 0)] by rw [List.take_add_one, List.getElem?_eq_getElem hlt, hq, List.map_append]; rfl)
      have HL1 := Lib.hid (show (plainM (l.take d)).length = d by simp [plainM]; omega)
      have HL2 := Lib.hid (show (catP l.length ++ (l.take d).map oneN).length ≤ d + 1 by rw [List.length_append, List.length_map, List.length_take]; unfold catP; split <;> simp <;> omega)
      clear hc hq
      generalize l.getD d 0 = b at *
      have HM1 := Lib.hid (HM.out.below ((Below.refl wr.heap.size wr).alloc (Nat.le_refl _) (.cells #[.int .u8 (b : Nat), .bool true] 46)))
      go_wp2_with (at_builtin; refine wpList_mks rfl _ _ rfl w.heap.size rfl HM1.out (ys := [⟨b, true⟩]) rfl (Src.new wr (mksC [⟨b, true⟩]) _ _ _) (by rw [HL1.out]; simp; omega) (by simp; omega) ?_)
      intro v1 w2 hm2 hgr2 hblk2
      have hsz1 : (wr.alloc (.cells #[.int .u8 (b : Nat), .bool true] 46)).heap.size = wr.heap.size + 1 := by simp
      have hs2 := hgr2.size
      rw [hsz1] at hs2
      have hne5 : some bb ≠ u5.ownBlock := fun e => by have := (HM.out.lt bb e.symm).1; omega
      have hcd2 : w2.cell? ⟨bb, bo + d, none⟩ = some (.int .u8 (b : Nat)) := (World.cell?_of_block (w := wr.alloc (.cells #[.int .u8 (b : Nat), .bool true] 46)) (a := ⟨bb, bo + d, none⟩) (hgr2.block bb (by rw [hsz1]; omega) hne5)).trans ((World.cell?_of_block (w := wr) (a := ⟨bb, bo + d, none⟩) (heap_alloc_old _ _ hbl)).trans hcd)
      have HN2 := Lib.hid (show Nds w2 w.heap.size u6 (catP l.length ++ (l.take d).map oneN) from HNN.out.block fun g hg => (hgr2.block g (by rw [hsz1]; have := (HNN.out.lt g hg).2; omega) (fun e => HE.out g e.symm hg)).trans (heap_alloc_old _ _ (HNN.out.lt g hg).2))
      have HB2 := Lib.hid ((HBB.out.alloc HBB.out.size (.cells #[.int .u8 (b : Nat), .bool true] 46)).grown hgr2 (by rw [hsz1]; omega) (fun k hk => (HM.out.lt k hk).1))
      have HE2 := Lib.hid (show ∀ g, v1.ownBlock = some g → u6.ownBlock ≠ some g from fun g hg => by
        rcases hblk2 with h | h
        · rw [h] at hg; exact HE.out g hg
        · rw [h] at hg; cases hg
          intro e
          have := (HNN.out.lt _ e).2
          omega)
      have HM2 := Lib.hid (show Mks w2 w.heap.size v1 (plainM (l.take (d + 1))) by rw [HT1.out]; exact hm2)
      clear hm2 hgr2 hblk2 HM1 HM HNN HE hne5 hsz1 hcd HT1
      go_wp2_with fail
      have hbB : bb < w2.heap.size := by omega
      have hwB : w.heap.size ≤ w2.heap.size := by omega
      have HD3 := Lib.hid (show ndAt (w2.alloc (.cells #[.int .i8 1, .int .u64 0, .int .u64 0, .int .u64 0, .int .u64 0, .int .i64 0, .int .i64 0, .int .i64 0, .int .i64 0] 33)) w2.heap.size (setN Cls.zero) from heap_alloc_new _ _)
      have hcd3 : (w2.alloc (.cells #[.int .i8 1, .int .u64 0, .int .u64 0, .int .u64 0, .int .u64 0, .int .i64 0, .int .i64 0, .int .i64 0, .int .i64 0] 33)).cell? ⟨bb, bo + d, none⟩ = some (.int .u8 (b : Nat)) := (World.cell?_of_block (w := w2) (a := ⟨bb, bo + d, none⟩) (heap_alloc_old _ _ hbB)).trans hcd2
      have HN3 := Lib.hid (HN2.out.alloc (.cells #[.int .i8 1, .int .u64 0, .int .u64 0, .int .u64 0, .int .u64 0, .int .i64 0, .int .i64 0, .int .i64 0, .int .i64 0] 33))
      have HM3 := Lib.hid (HM2.out.below ((Below.refl _ _).alloc (Nat.le_refl _) (.cells #[.int .i8 1, .int .u64 0, .int .u64 0, .int .u64 0, .int .u64 0, .int .i64 0, .int .i64 0, .int .i64 0, .int .i64 0] 33)))
      have HB3 := Lib.hid (HB2.out.alloc HB2.out.size (.cells #[.int .i8 1, .int .u64 0, .int .u64 0, .int .u64 0, .int .u64 0, .int .i64 0, .int .i64 0, .int .i64 0, .int .i64 0] 33))
      have hbl3 : bb < (w2.alloc (.cells #[.int .i8 1, .int .u64 0, .int .u64 0, .int .u64 0, .int .u64 0, .int .i64 0, .int .i64 0, .int .i64 0, .int .i64 0] 33)).heap.size := by rw [World.size_alloc]; omega
      have hsz3 : (w2.alloc (.cells #[.int .i8 1, .int .u64 0, .int .u64 0, .int .u64 0, .int .u64 0, .int .i64 0, .int .i64 0, .int .i64 0, .int .i64 0] 33)).heap.size = w2.heap.size + 1 := by rw [World.size_alloc]
      have hlm := Lib.hid (fun g hg => (HM2.out.lt g hg).2)
      have hln := Lib.hid (fun g hg => (HN2.out.lt g hg).2)
      clear HN2 HM2 HB2 hcd2
      revert HD3 hcd3 HN3 HM3 HB3 hbl3 hsz3
      generalize w2.alloc (.cells #[.int .i8 1, .int .u64 0, .int .u64 0, .int .u64 0, .int .u64 0, .int .i64 0, .int .i64 0, .int .i64 0, .int .i64 0] 33) = W3
      intro HD3 hcd3 HN3 HM3 HB3 hbl3 hsz3
      have HSZ := Lib.hid hsz3
      clear hsz3
      have hq4 : b / 64 < 4 := by omega
      have hsh := bit1_wrap (b % 64) (by omega)
      have hfz := HD3.out.cells.2.2.2.2.2.2.2.2.2 (1 + b / 64)
      have hcl : W3.cell? ⟨w2.heap.size, 1 + b / 64, none⟩ = some (.int .u64 0) := by
        obtain ⟨_, z1, z2, z3, z4, _⟩ := HD3.out.cells
        have hq : b / 64 = 0 ∨ b / 64 = 1 ∨ b / 64 = 2 ∨ b / 64 = 3 := by omega
        rcases hq with hq | hq | hq | hq
        · rw [hq]; exact z1
        · rw [hq]; exact z2
        · rw [hq]; exact z3
        · rw [hq]; exact z4
      have hBl := HD3.out.lt
      go_upto_region 12 with fail
      go_cut [] (fun wd => ndAt wd w2.heap.size (oneN b) ∧ Nds wd w.heap.size u6 (catP l.length ++ (l.take d).map oneN) ∧ Mks wd w.heap.size v1 (plainM (l.take (d + 1))) ∧ Below w.heap.size w wd)
      case first =>
        refine wp_region_segs (X := none) 13 [] [0, 1, 2, 3, 4, 5, 6, 7, 8, 9, 10, 11, 12] (by kernel_rfl) (by kernel_rfl) rfl (fun _ _ _ _ _ h => h) ?_
        simp only [wpSegs, pickSegs_nil, pickOps_nil, pickOps_cons, List.getD_cons_zero, List.getD_cons_succ, List.drop_succ_cons, List.drop_zero]
        repeat (go_big_quiet_step (fail))
        refine wpQuiet_nil ?_
        go_wp2_with fail
        go_meet
        have HD4 := Lib.hid (show ndAt (W3.setCell ⟨w2.heap.size, 1 + b / 64, none⟩ (.int .u64 ((bit1 (b % 64)).toNat : Nat))).drew w2.heap.size (oneN b) from HD3.out.bit hu)
        have hst : ∀ g, g ≠ w2.heap.size → (W3.setCell ⟨w2.heap.size, 1 + b / 64, none⟩ (.int .u64 ((bit1 (b % 64)).toNat : Nat))).drew.heap[g]? = W3.heap[g]? := fun g hg => Below.heap_setCell W3 ⟨w2.heap.size, 1 + b / 64, none⟩ (.int .u64 ((bit1 (b % 64)).toNat : Nat)) g hg
        have HN4 := Lib.hid (HN3.out.block fun g hg => hst g (by have := hln.out g hg; omega))
        have HM4 := Lib.hid (HM3.out.block fun g hg => hst g (by have := hlm.out g hg; omega))
        have HB4 := Lib.hid ((HB3.out.setCell (p := ⟨w2.heap.size, 1 + b / 64, none⟩) hwB (.int .u64 ((bit1 (b % 64)).toNat : Nat))).drew)
        have hsz4 : w2.heap.size < (W3.setCell ⟨w2.heap.size, 1 + b / 64, none⟩ (.int .u64 ((bit1 (b % 64)).toNat : Nat))).drew.heap.size := HD4.out.lt
        exact ⟨HD4.out, HN4.out, HM4.out, HB4.out⟩
      case rest =>
      obtain ⟨hd4, hn4, hm4, hb4⟩ := hcut
      have HD4 := Lib.hid hd4
      have HN4 := Lib.hid hn4
      have HM4 := Lib.hid hm4
      have HB4 := Lib.hid hb4
      have hsz4 := hd4.lt
      clear hd4 hn4 hm4 hb4 hcl HD3 HN3 HM3 HB3 hcd3 hfz hsh hbl3 hBl HSZ
      generalize oneN b = x at HD4 HT2
      obtain ⟨c0, c1, c2, c3, c4, c5, c6, c7, c8, _⟩ := HD4.out.cells
      have HN5 := Lib.hid (HN4.out.alloc (.cells #[.int .i8 x.op, .int .u64 x.set.w0.toNat, .int .u64 x.set.w1.toNat, .int .u64 x.set.w2.toNat, .int .u64 x.set.w3.toNat, .int .i64 x.n, .int .i64 x.min, .int .i64 x.max, .int .i64 x.kids] 33))
      go_wp2_with (at_builtin; refine wpList_nds rfl _ _ rfl w.heap.size rfl HN5.out (ys := [x]) rfl (Src.new wc (ndsC [x]) _ _ _) (by have := HL2.out; simp only [List.length_singleton]; omega) (by rw [World.size_alloc]; omega) ?_)
      intro v2 w5 hm5 hgr5 hblk5
      have hsz5 : (wc.alloc (.cells #[.int .i8 x.op, .int .u64 x.set.w0.toNat, .int .u64 x.set.w1.toNat, .int .u64 x.set.w2.toNat, .int .u64 x.set.w3.toNat, .int .i64 x.n, .int .i64 x.min, .int .i64 x.max, .int .i64 x.kids] 33)).heap.size = wc.heap.size + 1 := by rw [World.size_alloc]
      have HN6 := Lib.hid (show Nds w5 w.heap.size v2 (catP l.length ++ (l.take (d + 1)).map oneN) by rw [HT2.out, List.map_take]; exact hm5)
      have HM6 := Lib.hid (show Mks w5 w.heap.size v1 (plainM (l.take (d + 1))) from HM4.out.block fun g hg => (hgr5.block g (by rw [hsz5]; have := hlm.out g hg; omega) (fun e => HE2.out g hg e.symm)).trans (heap_alloc_old _ _ (by have := hlm.out g hg; omega)))
      have HB6 := Lib.hid ((HB4.out.alloc (by omega) (.cells #[.int .i8 x.op, .int .u64 x.set.w0.toNat, .int .u64 x.set.w1.toNat, .int .u64 x.set.w2.toNat, .int .u64 x.set.w3.toNat, .int .i64 x.n, .int .i64 x.min, .int .i64 x.max, .int .i64 x.kids] 33)).grown hgr5 (by rw [hsz5]; omega) (fun k hk => (HN4.out.lt k hk).1))
      have HE6 := Lib.hid (show ∀ g, v1.ownBlock = some g → v2.ownBlock ≠ some g from fun g hg => by
        rcases hblk5 with h | h
        · rw [h]; exact HE2.out g hg
        · rw [h]; intro e; cases e; have := hlm.out _ hg; omega)
      clear hm5 hgr5 hblk5 HN5 HM4 HB4 hsz5 HD4 HN4 HE2 c0 c1 c2 c3 c4 c5 c6 c7 c8
      go_wp2_with fail
      go_roundg (l.length - (d + 1))
      case measure => have := HG.out; omega
      case rel => exact ⟨d + 1, by go_num, rfl, by omega, HM6.out, HN6.out, HE6.out, HB6.out⟩
    · have hlt' : ¬ (d : Int) < (l.length : Int) := by omega
      have hde : d = l.length := by omega
      subst hde
      have HM1 := Lib.hid (show Mks wr w.heap.size u5 (plainM l) by have := HM.out; rwa [List.take_length] at this)
      have HN1 := Lib.hid (show Nds wr w.heap.size u6 (plainNd l) by have := HNN.out; rwa [List.take_length, catP_nd] at this)
      obtain ⟨o5, c5, rfl, hv5⟩ := HM1.out.toV (fun i hi => by
        have := HV.out.u i (by simpa [plainM] using hi)
        simpa [markAt, plainM, List.getD_eq_getElem?_getD, show i < l.length by simpa [plainM] using hi] using this)
      have HP5 := Lib.hid (parse_call (ere := ere) (cap := c5) (w := wr) hv5.arg)
      have hN6 := HN1.out
      have hlp : (plainNd l).length ≤ l.length + 1 := by unfold plainNd; split <;> simp
      have hkp : ∀ x ∈ plainNd l, x.kids ≤ (plainNd l).length := by
        intro x hx
        unfold plainNd at hx ⊢
        split at hx
        · rename_i h3
          rw [if_pos h3]
          simp only [List.mem_cons, List.mem_map] at hx
          rcases hx with rfl | ⟨b, _, rfl⟩
          · show ((l.length : Nat) : Int) ≤ ((catN l.length :: l.map oneN).length : Nat)
            rw [List.length_cons, List.length_map]
            omega
          · show (0 : Int) ≤ _
            omega
        · rename_i h3
          rw [if_neg h3]
          simp only [List.mem_map] at hx
          obtain ⟨b, _, rfl⟩ := hx
          show (0 : Int) ≤ _
          omega
      obtain ⟨o6, c6, rfl, hv6⟩ := hN6.toV (by omega) hkp
      have HV6 := Lib.hid hv6
      clear hN6 hv6 HM HNN HE hv5 HM1 HN1
      go_wp2_with fail
      rw [HP.out] at HP5
      refine HP5.out.mono ?_; rintro e w7 ⟨⟨v7, rfl, hn7⟩, hb7⟩
      obtain ⟨o7, c7, rfl, hv7⟩ := hn7.toV (by omega) hkp
      have HV7 := Lib.hid hv7
      have HV67 := Lib.hid (HV6.out.below hb7)
      have HB7 := Lib.hid (HBB.out.trans (hb7.mono HBB.out.size))
      clear hn7 hb7 hv7 HP5 HV6
      go_wp2_with fail
      refine (eqNodes_call HV7.out HV67.out).mono ?_; rintro e w8 ⟨rfl, hb8⟩
      rw [show decide (plainNd l = plainNd l) = true by simp]
      have HB8 := Lib.hid (HB7.out.trans (hb8.mono HB7.out.size))
      clear hb8
      go_wp2_with fail
      refine works_call.mono ?_; rintro e w9 ⟨rfl, hb9⟩
      have HB9 := Lib.hid (HB8.out.trans (hb9.mono HB8.out.size))
      clear hb9
      go_wp2_with fail
      go_ret
      exact ⟨rfl, HB9.out⟩
theorem plain_none (ere : Bool) {l : List Nat} {oa : Option Addr} {cap : Nat} {w : World} (hl : l.length = 0) :
    Calls Try.prog 8 #[.bool ere, .slice oa l.length cap] w fun e w' => e = .returned (.bool true) ∧ Below w.heap.size w w' := by
  have h1 : ((l.length : Int) == 0) = true := beq_iff_eq.2 (by omega)
  clear hl
  go_enter Try.func8, Try.ntmps8
  go_wp2_with fail
  refine works_call.mono ?_; rintro e w9 ⟨rfl, hb9⟩
  go_wp2_with fail
  go_ret
  exact ⟨rfl, hb9⟩
theorem plain_long (ere : Bool) {l : List Nat} {oa : Option Addr} {cap : Nat} {w : World} (hl : 4096 < l.length) :
    Calls Try.prog 8 #[.bool ere, .slice oa l.length cap] w fun e w' => e = .returned (.bool true) ∧ Below w.heap.size w w' := by
  have h1 : ((l.length : Int) == 0) = false := beq_eq_false_iff_ne.2 (by omega)
  have h2 : decide (4096 < (l.length : Int)) = true := decide_eq_true (by omega)
  clear hl
  go_enter Try.func8, Try.ntmps8
  go_wp2_with fail
  refine works_call.mono ?_; rintro e w9 ⟨rfl, hb9⟩
  go_wp2_with fail
  go_ret
  exact ⟨rfl, hb9⟩
theorem plain_all (ere : Bool) {l : List Nat} {oa : Option Addr} {cap : Nat} {w : World} (hv : BsV w oa l) :
    Calls Try.prog 8 #[.bool ere, .slice oa l.length cap] w fun e w' => e = .returned (.bool true) ∧ Below w.heap.size w w' := by
  by_cases h0 : l.length = 0
  · exact plain_none ere h0
  · by_cases h1 : 4096 < l.length
    · exact plain_long ere h1
    · exact plain_walk ere hv (by omega) (by omega)
end Go.Proofs.Ytbdjcmhfcdamiaa
