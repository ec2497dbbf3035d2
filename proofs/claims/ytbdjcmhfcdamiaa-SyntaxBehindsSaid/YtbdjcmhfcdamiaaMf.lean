/- SyntaxShapes' walk. -/
import Derived.Test.YtbdjcmhfcdamiaaUh
namespace Go.Proofs.Ytbdjcmhfcdamiaa
open Go.RowKit

theorem set_same {l : List Value} {j : Nat} {v : Value} (h : l[j]? = some v) : l.set j v = l := by
  refine List.ext_getElem? fun k => ?_
  rw [List.getElem?_set]
  split
  · rename_i hk
    subst hk
    have hj := (List.getElem?_eq_some_iff.1 h).1
    rw [if_pos hj, h]
  · rfl
theorem ndsC_set7 (l : List Nd) (i : Nat) (hi : i < l.length) (v : Int) : (ndsC l).set (i * 9 + 7) (.int .i64 v) = ndsC (l.set i { l.getD i Nd.zero with max := v }) := by
  have hc := fun j (hj : j < 9) => ndsC_at l i j hi hj
  rw [ndsC_set l i _ hi]
  generalize l.getD i Nd.zero = x at hc ⊢
  dsimp only
  have c8 := hc 8 (by decide)
  have c0 : (ndsC l)[i * 9]? = some (.int .i8 x.op) := hc 0 (by decide)
  have c1 : (ndsC l)[i * 9 + 1]? = some (.int .u64 x.set.w0.toNat) := hc 1 (by decide)
  have c2 : (ndsC l)[i * 9 + 2]? = some (.int .u64 x.set.w1.toNat) := hc 2 (by decide)
  have c3 : (ndsC l)[i * 9 + 3]? = some (.int .u64 x.set.w2.toNat) := hc 3 (by decide)
  have c4 : (ndsC l)[i * 9 + 4]? = some (.int .u64 x.set.w3.toNat) := hc 4 (by decide)
  have c5 : (ndsC l)[i * 9 + 5]? = some (.int .i64 x.n) := hc 5 (by decide)
  have c6 : (ndsC l)[i * 9 + 6]? = some (.int .i64 x.min) := hc 6 (by decide)
  rw [set_same c0, set_same c1, set_same c2, set_same c3, set_same c4, set_same c5, set_same c6]
  rw [set_same (l := (ndsC l).set (i * 9 + 7) (.int .i64 v)) (j := i * 9 + 8)]
  rw [List.getElem?_set, if_neg (by omega), c8]
  rfl
theorem ndsC_set6 (l : List Nd) (i : Nat) (hi : i < l.length) (v : Int) : (ndsC l).set (i * 9 + 6) (.int .i64 v) = ndsC (l.set i { l.getD i Nd.zero with min := v }) := by
  have hc := fun j (hj : j < 9) => ndsC_at l i j hi hj
  rw [ndsC_set l i _ hi]
  generalize l.getD i Nd.zero = x at hc ⊢
  dsimp only
  have c7 := hc 7 (by decide)
  have c8 := hc 8 (by decide)
  have c0 : (ndsC l)[i * 9]? = some (.int .i8 x.op) := hc 0 (by decide)
  have c1 : (ndsC l)[i * 9 + 1]? = some (.int .u64 x.set.w0.toNat) := hc 1 (by decide)
  have c2 : (ndsC l)[i * 9 + 2]? = some (.int .u64 x.set.w1.toNat) := hc 2 (by decide)
  have c3 : (ndsC l)[i * 9 + 3]? = some (.int .u64 x.set.w2.toNat) := hc 3 (by decide)
  have c4 : (ndsC l)[i * 9 + 4]? = some (.int .u64 x.set.w3.toNat) := hc 4 (by decide)
  have c5 : (ndsC l)[i * 9 + 5]? = some (.int .i64 x.n) := hc 5 (by decide)
  rw [set_same c0, set_same c1, set_same c2, set_same c3, set_same c4, set_same c5]
  rw [set_same (l := (ndsC l).set (i * 9 + 6) (.int .i64 v)) (j := i * 9 + 7) (v := .int .i64 x.max) (by rw [List.getElem?_set, if_neg (by omega), c7]; rfl),
    set_same (l := (ndsC l).set (i * 9 + 6) (.int .i64 v)) (j := i * 9 + 8) (v := .int .i64 x.kids) (by rw [List.getElem?_set, if_neg (by omega), c8]; rfl)]
theorem Nds.max {w : World} {base g n cap i : Nat} {l : List Nd} (h : Nds w base (.slice (some ⟨g, 0, none⟩) n cap) l) (hn : l.length = n) (hi : i < n) (v : Int) : Nds (w.setCell ⟨g, i * 9 + 7, none⟩ (.int .i64 v)) base (.slice (some ⟨g, 0, none⟩) n cap) (l.set i { l.getD i Nd.zero with max := v }) := by
  unfold Nds at h ⊢
  rw [List.length_set, hn, ← ndsC_set7 l i (by omega)]
  rw [hn] at h
  exact (World.ownsRow.stored h _ _).1
theorem Nds.min {w : World} {base g n cap i : Nat} {l : List Nd} (h : Nds w base (.slice (some ⟨g, 0, none⟩) n cap) l) (hn : l.length = n) (hi : i < n) (v : Int) : Nds (w.setCell ⟨g, i * 9 + 6, none⟩ (.int .i64 v)) base (.slice (some ⟨g, 0, none⟩) n cap) (l.set i { l.getD i Nd.zero with min := v }) := by
  unfold Nds at h ⊢
  rw [List.length_set, hn, ← ndsC_set6 l i (by omega)]
  rw [hn] at h
  exact (World.ownsRow.stored h _ _).1
/-- What the later checks ask of the nodes' numbers. -/
def NdOk (l : List Nd) : Prop := ∀ x ∈ l, (-128 ≤ x.op ∧ x.op ≤ 127) ∧ x.kids ≤ 9223372036854775807
theorem NdOk.set {l : List Nd} (h : NdOk l) {i : Nat} {x : Nd} (hx : (-128 ≤ x.op ∧ x.op ≤ 127) ∧ x.kids ≤ 9223372036854775807) : NdOk (l.set i x) := fun y hy => by
  rcases List.mem_or_eq_of_mem_set hy with hy | rfl
  · exact h y hy
  · exact hx
theorem NdOk.at_ {l : List Nd} (h : NdOk l) (i : Nat) : (-128 ≤ (l.getD i Nd.zero).op ∧ (l.getD i Nd.zero).op ≤ 127) ∧ (l.getD i Nd.zero).kids ≤ 9223372036854775807 := by
  by_cases hi : i < l.length
  · exact h _ (by rw [List.getD_eq_getElem?_getD, List.getElem?_eq_getElem hi]; exact List.getElem_mem hi)
  · rw [List.getD_eq_getElem?_getD, List.getElem?_eq_none (by omega)]
    show (-128 ≤ (0 : Int) ∧ (0 : Int) ≤ 127) ∧ (0 : Int) ≤ 9223372036854775807
    omega
set_option maxRecDepth 100000 in
set_option maxHeartbeats 3200000 in
theorem shapes_all {re : List Nd} {oa : Option Addr} {cap : Nat} {w : World} (hv : NdW w oa cap re) (z : re.length * 72 ≤ 140737488351232) :
    Calls Try.prog 3 #[.slice oa re.length cap] w fun e w' => e = .returned (.bool true) ∧ Below w.heap.size w w' := by
  have HV := Lib.hid hv
  have hok : NdOk re := fun x hx => ⟨(hv.wf x hx).1, (hv.wf x hx).2.2.2.2.2⟩
  have HOK := Lib.hid hok
  have HOP := hv.op
  clear hv hok
  go_enter Try.func3, Try.ntmps3
  go_wp2_with fail
  refine (beyond_call HV.out z).mono ?_; rintro e w1 ⟨⟨b, rfl⟩, hb1⟩
  have B1 := Lib.hid hb1
  clear hb1
  cases b with
  | true =>
    go_wp2_with fail
    go_ret
    exact ⟨rfl, B1.out⟩
  | false =>
  go_wp2_with fail
  refine (long_call _).mono ?_; rintro e w2 ⟨rfl, rfl⟩
  by_cases hl : 2147483647 < re.length
  · have hl' : decide ((2147483647 : Int) < (re.length : Int)) = true := decide_eq_true (by omega)
    rw [hl']
    clear hl hl'
    go_wp2_with fail
    go_ret
    exact ⟨rfl, B1.out⟩
  have hl' : decide ((2147483647 : Int) < (re.length : Int)) = false := decide_eq_false (by omega)
  rw [hl']
  clear hl'
  have HL := Lib.hid (show re.length ≤ 2147483647 by omega)
  have hlb : (re.length : Int) ≤ 2147483647 := by omega
  clear hl
  go_wp2_with fail
  refine (wideNodes_call (HV.out.below B1.out) HL.out).mono ?_; rintro e w2 ⟨⟨g, rfl, hn2⟩, hb2⟩
  have B2 := Lib.hid (B1.out.trans (hb2.mono B1.out.size))
  have HN2 := Lib.hid hn2
  have HFL := Lib.hid (show (re ++ spareL re.length).length = re.length + 64 by rw [List.length_append]; simp [spareL])
  have hgw : w.heap.size ≤ g := by have := (hn2.lt g rfl).1; have := B1.out.size; omega
  have HI2 := Lib.hid (hn2.preV HFL.out (by have := HL.out; omega) (fun x hx => (HOK.out x hx).2))
  have HR2 := Lib.hid ((HV.out.below B2.out).toV (by have := HL.out; omega))
  clear hb2 hn2
  go_wp2_with fail
  refine (shaped_call HI2.out).mono ?_; rintro e w3 ⟨rfl, hb3⟩
  have C3 := Lib.hid hb3
  clear hb3
  go_wp2_with fail
  refine (rshaped_call HOP (HR2.out.below C3.out)).mono ?_; rintro e w4 ⟨rfl, hb4⟩
  have C4 := Lib.hid (C3.out.trans (hb4.mono C3.out.size))
  clear hb4 C3
  go_wp2_with fail
  refine (groups_call (HI2.out.below C4.out)).mono ?_; rintro e w5 ⟨rfl, hb5⟩
  have C5 := Lib.hid (C4.out.trans (hb5.mono C4.out.size))
  clear hb5 C4
  go_wp2_with fail
  refine (rgroups_call HOP (HR2.out.below C5.out)).mono ?_; rintro e w6 ⟨rfl, hb6⟩
  have C6 := Lib.hid (C5.out.trans (hb6.mono C5.out.size))
  clear hb6 C5
  go_wp2_with fail
  refine (refs_call (HI2.out.below C6.out)).mono ?_; rintro e w7 ⟨rfl, hb7⟩
  have C7 := Lib.hid (C6.out.trans (hb7.mono C6.out.size))
  clear hb7 C6
  go_wp2_with fail
  refine (rrefs_call HOP (HR2.out.below C7.out)).mono ?_; rintro e w8 ⟨rfl, hb8⟩
  have C8 := Lib.hid (C7.out.trans (hb8.mono C7.out.size))
  clear hb8 C7
  go_wp2_with fail
  refine (weight_call (HI2.out.below C8.out)).mono ?_; rintro e w9 ⟨rfl, hb9⟩
  have C9 := Lib.hid (C8.out.trans (hb9.mono C8.out.size))
  clear hb9 C8
  go_wp2_with fail
  refine (rweight_call HOP (HR2.out.below C9.out)).mono ?_; rintro e wa ⟨rfl, hba⟩
  have Ca := Lib.hid (C9.out.trans (hba.mono C9.out.size))
  clear hba C9
  go_wp2_with fail
  refine (eqNodes_call (HI2.out.below Ca.out) (HR2.out.below Ca.out)).mono ?_; rintro e wb ⟨rfl, hbb⟩
  rw [show decide (re = re) = true by simp]
  have Cb := Lib.hid (Ca.out.trans (hbb.mono Ca.out.size))
  clear hbb Ca
  go_wp2_with fail
  refine (spareNodes_call (HN2.out.below Cb.out) rfl HL.out).mono ?_; rintro e wc ⟨rfl, hbc⟩
  have Cc := Lib.hid (Cb.out.trans (hbc.mono Cb.out.size))
  have Bc := Lib.hid (B2.out.trans (Cc.out.mono B2.out.size))
  have HNc := Lib.hid ((HN2.out.below Cc.out).mono (base' := w.heap.size) B1.out.size)
  clear hbc Cb HI2 HR2 HN2
  go_wp2_with fail
  go_loopg [4] re.length (fun n iv wr => ∃ (d : Nat) (l : List Nd), iv = .int .i64 (d : Nat) ∧ n = re.length - d ∧ d ≤ re.length ∧ l.length = re.length ∧ NdOk l ∧ Nds wr w.heap.size (.slice (some ⟨g, 0, none⟩) (re.length + 64) (re.length + 64)) (l ++ spareL re.length) ∧ Below w.heap.size w wr)
  case atStart => exact ⟨0, re, rfl, by omega, by omega, rfl, HOK.out, HNc.out, Bc.out⟩
  case round =>
    obtain ⟨d, l, rfl, hg, hd, hll, hlo, hn, hb⟩ := hrel
    have HG := Lib.hid hg
    have HLL := Lib.hid hll
    have HLO := Lib.hid hlo
    have HN := Lib.hid hn
    have HB := Lib.hid hb
    have HFL2 := Lib.hid (show (l ++ spareL re.length).length = re.length + 64 by rw [List.length_append, hll]; simp [spareL])
    clear hg hll hlo hn hb
    by_cases hlt : d < re.length
    · have hlt' : (d : Int) < (re.length : Int) := by omega
      have HGD := Lib.hid (show (l ++ spareL re.length).getD d Nd.zero = l.getD d Nd.zero by rw [List.getD_eq_getElem?_getD, List.getD_eq_getElem?_getD, List.getElem?_append_left (by have := HLL.out; omega)])
      obtain ⟨z0, z1, z2, z3, z4, z5, z6, z7, z8, zf⟩ := HN.out.nine HFL2.out (show d < re.length + 64 by omega) HGD.out
      obtain ⟨⟨hop1, hop2⟩, hkk⟩ := HLO.out.at_ d
      have hgr : g < wr.heap.size := (HN.out.lt g rfl).2
      generalize hx : l.getD d Nd.zero = x at *
      have HX := Lib.hid hx
      clear hx z1 z2 z3 z4 z5 z8
      generalize hop : x.op = op at *
      generalize hmn : x.min = mn at *
      generalize hmx : x.max = mx at *
      have H1 := Lib.hid hop
      clear hop hmn hmx
      by_cases h6 : op = 6
      · subst h6
        have hn1 := Nds.max HN.out HFL2.out (show d < re.length + 64 by omega) (bits .xor .i64 mx 1)
        have hgd2 : ((l ++ spareL re.length).set d { (l ++ spareL re.length).getD d Nd.zero with max := bits .xor .i64 mx 1 }) = l.set d { l.getD d Nd.zero with max := bits .xor .i64 mx 1 } ++ spareL re.length := by
          rw [List.set_append_left _ _ (by have := HLL.out; omega), HGD.out, HX.out]
        rw [hgd2] at hn1
        have HLO2 := Lib.hid (HLO.out.set (i := d) (x := { l.getD d Nd.zero with max := bits .xor .i64 mx 1 }) (HLO.out.at_ d))
        have HLL2 := Lib.hid (show (l.set d { l.getD d Nd.zero with max := bits .xor .i64 mx 1 }).length = re.length by rw [List.length_set]; exact HLL.out)
        clear hgd2
        generalize l.set d { l.getD d Nd.zero with max := bits .xor .i64 mx 1 } = l2 at hn1 HLO2 HLL2
        have HFL3 := Lib.hid (show (l2 ++ spareL re.length).length = re.length + 64 by rw [List.length_append, HLL2.out]; simp [spareL])
        have hn2 := fun v => Nds.min hn1 HFL3.out (show d < re.length + 64 by omega) v
        have hgd3 : ∀ v, ((l2 ++ spareL re.length).set d { (l2 ++ spareL re.length).getD d Nd.zero with min := v }) = l2.set d { l2.getD d Nd.zero with min := v } ++ spareL re.length := fun v => by
          rw [List.set_append_left _ _ (by have := HLL2.out; omega), show (l2 ++ spareL re.length).getD d Nd.zero = l2.getD d Nd.zero by rw [List.getD_eq_getElem?_getD, List.getD_eq_getElem?_getD, List.getElem?_append_left (by have := HLL2.out; omega)]]
        have HN2 := Lib.hid (fun v => (hgd3 v) ▸ hn2 v)
        have HB2 := Lib.hid (fun v => (HB.out.setCell (p := ⟨g, d * 9 + 7, none⟩) hgw (.int .i64 (bits .xor .i64 mx 1))).setCell (p := ⟨g, d * 9 + 6, none⟩) hgw (.int .i64 v))
        clear hn1 hn2 hgd3
        go_wp2_with fail
        go_roundg (re.length - (d + 1))
        case measure => have := HG.out; omega
        case rel => exact ⟨d + 1, l2.set d { l2.getD d Nd.zero with min := wrap64 (mn + 1) }, by go_num, rfl, by omega, by rw [List.length_set]; exact HLL2.out, HLO2.out.set (HLO2.out.at_ d), HN2.out _, HB2.out _⟩
      · have h6' : (op == 6) = false := by simpa using h6
        go_wp2_with fail
        go_roundg (re.length - (d + 1))
        case measure => have := HG.out; omega
        case rel => exact ⟨d + 1, l, by go_num, rfl, by omega, HLL.out, HLO.out, HN.out, HB.out⟩
    · have hlt' : ¬ (d : Int) < (re.length : Int) := by omega
      have HLB := Lib.hid (show l.length ≤ 4294967296 by have := HLL.out; have := HL.out; omega)
      have HIn := Lib.hid (HN.out.preV HFL2.out HLB.out (fun x hx => (HLO.out x hx).2))
      have HC := Lib.hid (copyNodesS_call (cap := re.length + 64) (Lib.hid HIn.out.srcAt).out (by have := HLL.out; have := HL.out; omega))
      have HS := fun w' (h : NdV w' (some ⟨g, 0, none⟩) l) => Lib.hid (shaped_call (cap := re.length + 64) h)
      have HW := fun w' (h : NdV w' (some ⟨g, 0, none⟩) l) => Lib.hid (weight_call (cap := re.length + 64) h)
      rw [HLL.out] at HC HS HW
      go_wp2_with fail
      refine HC.out.mono ?_; rintro e x1 ⟨⟨v, rfl, hv1⟩, hb1⟩
      have D1 := Lib.hid hb1
      obtain ⟨ob, cp, rfl, hcp, hvo⟩ := hv1.toV2 HLB.out (fun x hx => (HLO.out x hx).2)
      have HVO := Lib.hid hvo
      have HOL : Hid (∀ x ∈ l, -128 ≤ x.op ∧ x.op ≤ 127) := fun x hx => (HLO.out x hx).1
      clear hb1 hv1 hvo
      go_wp2_with fail
      refine (HS _ (HIn.out.below D1.out)).out.mono ?_; rintro e x2 ⟨rfl, hb2⟩
      have D2 := Lib.hid hb2
      clear hb2
      go_wp2_with fail
      refine (rshaped_call HOL (HVO.out.below D2.out)).mono ?_; rintro e x3 ⟨rfl, hb3⟩
      have D3 := Lib.hid (D2.out.trans (hb3.mono D2.out.size))
      clear hb3
      go_wp2_with fail
      refine (HW _ ((HIn.out.below D1.out).below D3.out)).out.mono ?_; rintro e x4 ⟨rfl, hb4⟩
      have D4 := Lib.hid (D3.out.trans (hb4.mono D3.out.size))
      clear hb4
      go_wp2_with fail
      refine (rweight_call HOL (HVO.out.below D4.out)).mono ?_; rintro e x5 ⟨rfl, hb5⟩
      have D5 := Lib.hid (D4.out.trans (hb5.mono D4.out.size))
      clear hb5
      go_wp2_with fail
      refine works_call.mono ?_; rintro e x6 ⟨rfl, hb6⟩
      have D6 := Lib.hid (D5.out.trans (hb6.mono D5.out.size))
      clear hb6
      go_wp2_with fail
      go_ret
      exact ⟨rfl, HB.out.trans ((D1.out.trans (D6.out.mono D1.out.size)).mono HB.out.size)⟩
end Go.Proofs.Ytbdjcmhfcdamiaa
