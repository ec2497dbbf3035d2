/- Contracts of the statements' own functions on trees: moved, sidesOf. -/
import Derived.Test.YtbdjcmhfcdamiaaTh
import Derived.Test.YtbdjcmhfcdamiaaPi
namespace Go.Proofs.Ytbdjcmhfcdamiaa
open Go.RowKit

theorem sh_cells (p : Nat) (x : Nd) (h : x.op = 7) : ndCells (sh p x) = #[.int .i8 7, .int .u64 x.set.w0.toNat, .int .u64 x.set.w1.toNat, .int .u64 x.set.w2.toNat, .int .u64 x.set.w3.toNat, .int .i64 (x.n + (p : Int)), .int .i64 x.min, .int .i64 x.max, .int .i64 x.kids] := by
  unfold sh ndCells
  rw [if_pos h]
  simp [h]
set_option maxRecDepth 100000 in
set_option maxHeartbeats 1600000 in
theorem moved_call {re : List Nd} {nb no cap p : Nat} {w : World} (hn : NdAt w nb no re) (hl : re.length ≤ 16386) (h7 : ∀ x ∈ re, 1 ≤ x.op ∧ x.op ≤ 8 ∧ (x.op = 7 → 0 ≤ x.n ∧ x.n ≤ 255)) (hp : p ≤ 255) (pv : Int) (hpv : pv = p) :
    Calls Try.prog 30 #[.slice (some ⟨nb, no, none⟩) re.length cap, .int .i64 pv] w fun e w' => (∃ v, e = .returned v ∧ Nds w' w.heap.size v (re.map (sh p))) ∧ Below w.heap.size w w' := by
  subst hpv
  have HN := Lib.hid hn
  have H7 := Lib.hid h7
  clear hn h7
  go_enter Try.func30, Try.ntmps30
  go_wp2_with fail
  go_loopg [5, 6] re.length (fun n nv iv wr => ∃ d : Nat, iv = .int .i64 (d : Nat) ∧ n = re.length - d ∧ d ≤ re.length ∧ Nds wr w.heap.size nv ((re.take d).map (sh p)) ∧ Below w.heap.size w wr)
  case atStart => exact ⟨0, rfl, by omega, by omega, Nds.nil _ _, Below.refl _ _⟩
  case round =>
    obtain ⟨d, rfl, hg, hd, hm, hb⟩ := hrel
    have HG := Lib.hid hg
    have HM := Lib.hid hm
    have HB := Lib.hid hb
    have hBs := hb.size
    clear hg hm hb
    by_cases hlt : d < re.length
    · have hlt' : (d : Int) < (re.length : Int) := by omega
      obtain ⟨x, hx⟩ : ∃ x, re[d]? = some x := ⟨_, List.getElem?_eq_getElem hlt⟩
      have hnr := HN.out.below HB.out
      obtain ⟨n0, n1, n2, n3, n4, n5, n6, n7, n8⟩ := hnr.cells hx
      have nbl := hnr.lt
      have HT := Lib.hid (show (re.take (d + 1)).map (sh p) = (re.take d).map (sh p) ++ [sh p x] by rw [List.take_add_one, hx, List.map_append]; rfl)
      obtain ⟨ho1, ho2, hx7⟩ := H7.out x (List.mem_of_getElem? hx)
      have HLL := Lib.hid (show ((re.take d).map (sh p)).length ≤ d by rw [List.length_map, List.length_take]; omega)
      clear hnr hx
      by_cases h7 : x.op = 7
      · obtain ⟨ha, hb⟩ := hx7 h7
        have HC := Lib.hid (sh_cells p x h7)
        rw [h7] at n0
        clear h7 hx7 ho1 ho2
        generalize sh p x = y at HT HC
        obtain ⟨op, ⟨x0, x1, x2, x3⟩, xn, xmin, xmax, xk⟩ := x
        simp only at n1 n2 n3 n4 n5 n6 n7 n8 ha hb HC
        have HB1 := Lib.hid ((HB.out.alloc HB.out.size (.cells #[.int .i8 7, .int .u64 x0.toNat, .int .u64 x1.toNat, .int .u64 x2.toNat, .int .u64 x3.toNat, .int .i64 (xn + (p : Int)), .int .i64 xmin, .int .i64 xmax, .int .i64 xk] 33)))
        have HM1 := Lib.hid ((HM.out.alloc (.cells #[.int .i8 7, .int .u64 x0.toNat, .int .u64 x1.toNat, .int .u64 x2.toNat, .int .u64 x3.toNat, .int .i64 (xn + (p : Int)), .int .i64 xmin, .int .i64 xmax, .int .i64 xk] 33)).alloc (.cells #[.int .i8 7, .int .u64 x0.toNat, .int .u64 x1.toNat, .int .u64 x2.toNat, .int .u64 x3.toNat, .int .i64 (xn + (p : Int)), .int .i64 xmin, .int .i64 xmax, .int .i64 xk] 33))
        have hS : Src ((wr.alloc (.cells #[.int .i8 7, .int .u64 x0.toNat, .int .u64 x1.toNat, .int .u64 x2.toNat, .int .u64 x3.toNat, .int .i64 (xn + (p : Int)), .int .i64 xmin, .int .i64 xmax, .int .i64 xk] 33)).alloc (.cells #[.int .i8 7, .int .u64 x0.toNat, .int .u64 x1.toNat, .int .u64 x2.toNat, .int .u64 x3.toNat, .int .i64 (xn + (p : Int)), .int .i64 xmin, .int .i64 xmax, .int .i64 xk] 33)) (.slice (some ⟨wr.heap.size + 1, 0, none⟩) 1 1) 1 (ndsC [y]) := by
          have h := Src.new (wr.alloc (.cells #[.int .i8 7, .int .u64 x0.toNat, .int .u64 x1.toNat, .int .u64 x2.toNat, .int .u64 x3.toNat, .int .i64 (xn + (p : Int)), .int .i64 xmin, .int .i64 xmax, .int .i64 xk] 33)) (ndsC [y]) 33 1 1
          rw [World.size_alloc] at h
          simp only [ndsC, List.flatMap_cons, List.flatMap_nil, List.append_nil, HC.out] at h ⊢
          exact h
        have HS := Lib.hid hS
        clear hS HC
        go_wp2_with (at_builtin; refine wpList_nds rfl _ _ rfl w.heap.size rfl HM1.out (ys := [y]) rfl HS.out (by have := HLL.out; simp only [List.length_singleton]; omega) (by rw [World.size_alloc, World.size_alloc]; omega) ?_)
        intro v1 w2 hm2 hgr2 hblk2
        have HM2 := Lib.hid (show Nds w2 w.heap.size v1 ((re.take (d + 1)).map (sh p)) by rw [HT.out, List.map_take]; exact hm2)
        have HB2 := Lib.hid ((HB1.out.alloc HB1.out.size (.cells #[.int .i8 7, .int .u64 x0.toNat, .int .u64 x1.toNat, .int .u64 x2.toNat, .int .u64 x3.toNat, .int .i64 (xn + (p : Int)), .int .i64 xmin, .int .i64 xmax, .int .i64 xk] 33)).grown hgr2 (by rw [World.size_alloc, World.size_alloc]; omega) (fun k hk => (HM.out.lt k hk).1))
        clear hm2 hgr2 hblk2
        go_wp2_with fail
        go_roundg (re.length - (d + 1))
        case measure => have := HG.out; omega
        case rel => exact ⟨d + 1, by go_num, rfl, by omega, HM2.out, HB2.out⟩
      · have HC := Lib.hid (sh_ne (p := p) h7)
        have h7' : (x.op == 7) = false := by simpa using h7
        clear hx7
        obtain ⟨op, ⟨x0, x1, x2, x3⟩, xn, xmin, xmax, xk⟩ := x
        simp only at n0 n1 n2 n3 n4 n5 n6 n7 n8 h7 h7' ho1 ho2
        have HB1 := Lib.hid ((HB.out.alloc HB.out.size (.cells #[.int .i8 op, .int .u64 x0.toNat, .int .u64 x1.toNat, .int .u64 x2.toNat, .int .u64 x3.toNat, .int .i64 xn, .int .i64 xmin, .int .i64 xmax, .int .i64 xk] 33)))
        have HM1 := Lib.hid ((HM.out.alloc (.cells #[.int .i8 op, .int .u64 x0.toNat, .int .u64 x1.toNat, .int .u64 x2.toNat, .int .u64 x3.toNat, .int .i64 xn, .int .i64 xmin, .int .i64 xmax, .int .i64 xk] 33)).alloc (.cells #[.int .i8 op, .int .u64 x0.toNat, .int .u64 x1.toNat, .int .u64 x2.toNat, .int .u64 x3.toNat, .int .i64 xn, .int .i64 xmin, .int .i64 xmax, .int .i64 xk] 33))
        have hS : Src ((wr.alloc (.cells #[.int .i8 op, .int .u64 x0.toNat, .int .u64 x1.toNat, .int .u64 x2.toNat, .int .u64 x3.toNat, .int .i64 xn, .int .i64 xmin, .int .i64 xmax, .int .i64 xk] 33)).alloc (.cells #[.int .i8 op, .int .u64 x0.toNat, .int .u64 x1.toNat, .int .u64 x2.toNat, .int .u64 x3.toNat, .int .i64 xn, .int .i64 xmin, .int .i64 xmax, .int .i64 xk] 33)) (.slice (some ⟨wr.heap.size + 1, 0, none⟩) 1 1) 1 (ndsC [⟨op, ⟨x0, x1, x2, x3⟩, xn, xmin, xmax, xk⟩]) := by
          have h := Src.new (wr.alloc (.cells #[.int .i8 op, .int .u64 x0.toNat, .int .u64 x1.toNat, .int .u64 x2.toNat, .int .u64 x3.toNat, .int .i64 xn, .int .i64 xmin, .int .i64 xmax, .int .i64 xk] 33)) (ndsC [⟨op, ⟨x0, x1, x2, x3⟩, xn, xmin, xmax, xk⟩]) 33 1 1
          rw [World.size_alloc] at h
          exact h
        have HS := Lib.hid hS
        clear hS
        go_wp2_with (at_builtin; refine wpList_nds rfl _ _ rfl w.heap.size rfl HM1.out (ys := [⟨op, ⟨x0, x1, x2, x3⟩, xn, xmin, xmax, xk⟩]) rfl HS.out (by have := HLL.out; simp only [List.length_singleton]; omega) (by rw [World.size_alloc, World.size_alloc]; omega) ?_)
        intro v1 w2 hm2 hgr2 hblk2
        have HM2 := Lib.hid (show Nds w2 w.heap.size v1 ((re.take (d + 1)).map (sh p)) by rw [HT.out, HC.out, List.map_take]; exact hm2)
        have HB2 := Lib.hid ((HB1.out.alloc HB1.out.size (.cells #[.int .i8 op, .int .u64 x0.toNat, .int .u64 x1.toNat, .int .u64 x2.toNat, .int .u64 x3.toNat, .int .i64 xn, .int .i64 xmin, .int .i64 xmax, .int .i64 xk] 33)).grown hgr2 (by rw [World.size_alloc, World.size_alloc]; omega) (fun k hk => (HM.out.lt k hk).1))
        clear hm2 hgr2 hblk2
        go_wp2_with fail
        go_roundg (re.length - (d + 1))
        case measure => have := HG.out; omega
        case rel => exact ⟨d + 1, by go_num, rfl, by omega, HM2.out, HB2.out⟩
    · have hlt' : ¬ (d : Int) < (re.length : Int) := by omega
      have hde : d = re.length := by omega
      subst hde
      have HM1 := Lib.hid (show Nds wr w.heap.size u5 (re.map (sh p)) by have := HM.out; rwa [List.take_length] at this)
      go_wp2_with fail
      go_ret
      exact ⟨⟨_, rfl, HM1.out⟩, HB.out⟩
theorem nd_src {w : World} {nb no cap : Nat} {re : List Nd} (h : NdAt w nb no re) (k : Nat) (hk : k ≤ re.length) : Src w (.slice (some ⟨nb, no + k * 9, none⟩) (re.drop k).length cap) (re.drop k).length (ndsC (re.drop k)) := by
  refine .inr ⟨_, _, rfl, fun j u hu => ?_⟩
  have hj : j < (ndsC (re.drop k)).length := (List.getElem?_eq_some_iff.1 hu).1
  rw [ndsC_length] at hj
  have hadd : (⟨nb, no + k * 9, none⟩ : Addr).add j = ⟨nb, no + k * 9 + j, none⟩ := by unfold Addr.add; split <;> simp_all
  have hc := ndsC_at (re.drop k) (j / 9) (j % 9) (by omega) (by omega)
  rw [show j / 9 * 9 + j % 9 = j by omega, hu] at hc
  rw [List.length_drop] at hj
  have h1 := (h.c (k + j / 9) (by omega) (j % 9)).resolve_right (by omega)
  have hg : (re.drop k).getD (j / 9) Nd.zero = re.getD (k + j / 9) Nd.zero := by simp [List.getD_eq_getElem?_getD, List.getElem?_drop]
  rw [hg] at hc
  rw [hadd, show no + k * 9 + j = no + (k + j / 9) * 9 + j % 9 by omega, h1, ← hc]
set_option maxRecDepth 100000 in
set_option maxHeartbeats 1600000 in
theorem sidesOf_call {re : List Nd} {nb no cap : Nat} {w : World} (hn : NdAt w nb no re) (hp : 0 < re.length) (hc : re.length ≤ cap) (ho : 1 ≤ (re.getD 0 Nd.zero).op ∧ (re.getD 0 Nd.zero).op ≤ 8) (h5 : (re.getD 0 Nd.zero).op = 5 → 1 < re.length) :
    Calls Try.prog 31 #[.slice (some ⟨nb, no, none⟩) re.length cap] w fun e w' => (∃ n2 c2, e = .returned (.tuple #[.slice (some ⟨nb, n2, none⟩) (sidesN re).1.length c2, .int .i64 (sidesN re).2]) ∧ ∀ W, Below w.heap.size w W → Src W (.slice (some ⟨nb, n2, none⟩) (sidesN re).1.length c2) (sidesN re).1.length (ndsC (sidesN re).1)) ∧ Below w.heap.size w w' := by
  have hl := hn.len
  obtain ⟨x, hx⟩ : ∃ x, re[0]? = some x := ⟨_, List.getElem?_eq_getElem hp⟩
  have hg : re.getD 0 Nd.zero = x := by simp [List.getD_eq_getElem?_getD, hx]
  rw [hg] at ho h5
  obtain ⟨n0, n1, n2, n3, n4, n5, n6, n7, n8⟩ := hn.cells hx
  simp only [Nat.zero_mul, Nat.add_zero] at n0 n1 n2 n3 n4 n5 n6 n7 n8
  have nbl := hn.lt
  have HN := Lib.hid hn
  have hpi : (0 : Int) < (re.length : Int) := by omega
  obtain ⟨ho1, ho2⟩ := ho
  by_cases h : x.op = 5
  · have hs : sidesN re = (re.drop 1, x.kids) := by unfold sidesN; rw [hg, if_pos h]
    have h1 := h5 h
    have hlen : (re.drop 1).length = re.length - 1 := by simp
    have HS := Lib.hid (fun (W : World) (hb : Below w.heap.size w W) => nd_src (cap := cap - 1) (HN.out.below hb) 1 (by omega))
    rw [hs]
    simp only
    rw [h] at n0
    have HLEN := Lib.hid hlen
    clear hs h5 h ho1 ho2 hn hx hg hlen
    generalize x.kids = xk at *
    go_enter Try.func31, Try.ntmps31
    go_wp2_with fail
    refine wp_region_segs (X := none) 8 [] [0, 1, 2, 3, 4, 5, 6, 7] (by kernel_rfl) (by kernel_rfl) rfl (fun _ _ _ _ _ h => h) ?_
    simp only [wpSegs, pickSegs_nil, pickOps_nil, pickOps_cons, List.getD_cons_zero, List.getD_cons_succ, List.drop_succ_cons, List.drop_nil]
    repeat (go_big_quiet_step (fail))
    refine wpQuiet_nil ?_
    go_wp2_with fail
    go_ret2
    exact ⟨⟨no + 9, cap - 1, by rw [HLEN.out]; rfl, fun W hb => by have := HS.out W hb; rwa [Nat.one_mul] at this⟩, (Below.refl _ _).drew⟩
  · have hs : sidesN re = (re, 1) := by unfold sidesN; rw [hg, if_neg h]
    have h' : (x.op == 5) = false := by simpa using h
    have HS := Lib.hid (fun (W : World) (hb : Below w.heap.size w W) => nd_src (cap := cap) (HN.out.below hb) 0 (by omega))
    rw [hs]
    simp only
    clear hs h5 hn hx hg
    generalize x.op = op at *
    go_enter Try.func31, Try.ntmps31
    go_wp2_with fail
    go_ret2
    exact ⟨⟨no, cap, rfl, fun W hb => by simpa using HS.out W hb⟩, Below.refl _ _⟩
theorem NdV.src {w : World} {oa : Option Addr} {cap : Nat} {re : List Nd} (h : NdV w oa re) (hp : 0 < re.length) : Src w (.slice oa re.length cap) re.length (ndsC re) := by
  obtain ⟨nb, no, rfl, hn⟩ := h.at_ hp
  have := nd_src (cap := cap) hn 0 (by omega)
  simpa using this
set_option maxRecDepth 100000 in
set_option maxHeartbeats 1600000 in
theorem copyNodes_call {re : List Nd} {oa : Option Addr} {cap : Nat} {w : World} (hv : NdV w oa re) (hp : 0 < re.length) (hl : re.length ≤ 100000) :
    Calls Try.prog 23 #[.slice oa re.length cap] w fun e w' => (∃ v, e = .returned v ∧ Nds w' w.heap.size v re) ∧ Below w.heap.size w w' := by
  have HV := Lib.hid (hv.src (cap := cap) hp)
  clear hv
  go_enter Try.func23, Try.ntmps23
  go_wp2_with (at_builtin; refine wpList_nds rfl _ _ rfl w.heap.size rfl (Nds.nil _ _) (ys := re) rfl HV.out (by simp; omega) (Nat.le_refl _) ?_)
  intro v1 w2 hm2 hgr2 hblk2
  have HM := Lib.hid (show Nds w2 w.heap.size v1 re from hm2)
  have HB := Lib.hid ((Below.refl w.heap.size w).grown hgr2 (Nat.le_refl _) (fun k hk => by cases hk))
  clear hm2 hgr2 hblk2
  go_wp2_with fail
  go_ret
  exact ⟨⟨_, rfl, HM.out⟩, HB.out⟩
end Go.Proofs.Ytbdjcmhfcdamiaa
