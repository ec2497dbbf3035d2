/- Parts: Cp. -/
import Derived.Test.YtbdjcmhfcdamiaaGreatDoorQ26
import Derived.Test.YtbdjcmhfcdamiaaGreatDoorQ30
/- SpellPrints' walk. -/
namespace Go.Proofs.YtbdjcmhfcdamiaaGreatDoor
open Go.RowKit

set_option maxRecDepth 100000 in
set_option maxHeartbeats 1600000 in
theorem long6_call {re : List Nd} {oa : Option Addr} {cap : Nat} {w : World} (hv : NdW w oa cap re) (z : re.length * 72 ≤ 140737488351232) :
    Calls Tryz.prog 5 #[.slice oa re.length cap] w fun e w' => (∃ b, e = .returned (.bool b) ∧ (b = false → re.length ≤ 2147483647)) ∧ Below w.heap.size w w' := by
  have HV := Lib.hid hv
  have HZ := Lib.hid z
  clear hv z
  go_enter Tryz.func5, Tryz.ntmps5
  go_wp2_with fail
  refine (long_call _).mono ?_; rintro e wa ⟨rfl, rfl⟩
  by_cases q : (2147483647 : Int) < (re.length : Int)
  · rw [decide_eq_true q]
    clear q
    go_wp2_with fail
    go_ret
    exact ⟨⟨_, rfl, fun h => by cases h⟩, Below.refl _ _⟩
  · rw [decide_eq_false q]
    have HQ := Lib.hid (show re.length ≤ 2147483647 by omega)
    clear q
    go_wp2_with fail
    refine (beyond_call HV.out HZ.out).mono ?_; rintro e w1 ⟨⟨b, rfl⟩, hb1⟩
    have HB := Lib.hid hb1
    clear hb1
    go_wp2_with fail
    go_ret
    exact ⟨⟨_, rfl, fun _ => HQ.out⟩, HB.out⟩
set_option maxRecDepth 100000 in
set_option maxHeartbeats 12800000 in
theorem prints_all {w : World} {re : List Nd} {oa : Option Addr} {ca : Nat} (ere : Bool) (hv : NdW w oa ca re) (z : re.length * 72 ≤ 140737488351232) (ht : Tabs w) :
    Calls Tryz.prog 3 #[.bool ere, .slice oa re.length ca] w fun e w' => e = .returned (.bool true) ∧ Below w.heap.size w w' := by
  have HT := Lib.hid ht
  have HV := Lib.hid hv
  have HLO := Lib.hid (long6_call hv z)
  have HKS : Hid (NdKs re) := Lib.hid fun x hx => ⟨(hv.wf x hx).1, (hv.wf x hx).2.2.2.2.2⟩
  clear ht hv z
  go_enter Tryz.func3, Tryz.ntmps3
  go_wp2_with fail
  refine HLO.out.mono ?_; rintro e w0 ⟨⟨b, rfl, hlen⟩, hb0⟩
  have HB0 := Lib.hid hb0
  have HLEN := Lib.hid hlen
  clear hb0 hlen HLO
  cases b with
  | true =>
    go_wp2_with fail
    go_ret
    exact ⟨rfl, HB0.out⟩
  | false =>
  have hL64 : (re.length : Int) ≤ 2147483647 := by have := HLEN.out rfl; omega
  have HLE := Lib.hid (HLEN.out rfl)
  clear HLEN
  have HV0 := Lib.hid (HV.out.below HB0.out)
  have S0 := Lib.hid HB0.out.size
  clear HV
  go_wp2_with fail
  refine (lives_call (HT.out.below HB0.out)).mono ?_; rintro e w1 ⟨rfl, hb1⟩
  have HB1 := Lib.hid (HB0.out.trans (hb1.mono HB0.out.size))
  have HV1 := Lib.hid (HV0.out.below hb1)
  have S1 := Lib.hid hb1.size
  clear hb1 HV0 HB0
  go_wp2_with fail
  refine (wideNodes_call HV1.out HLE.out).mono ?_; rintro e w2 ⟨⟨g, rfl, hw2⟩, hb2⟩
  have HB2 := Lib.hid (HB1.out.trans (hb2.mono HB1.out.size))
  have HV2 := Lib.hid (HV1.out.below hb2)
  have HW2 : Hid (WideN w2 w1.heap.size g re.length re) := Lib.hid ⟨rfl, hw2⟩
  have HGG := Lib.hid HW2.out.lt
  have S2 := Lib.hid hb2.size
  clear hb2 hw2 HB1 HV1
  obtain ⟨s, hs⟩ : ∃ s, bm (prS ere re) = s := ⟨_, rfl⟩
  obtain ⟨k, hk⟩ : ∃ k, prE ere re = k := ⟨_, rfl⟩
  have hsl : s.length ≤ 4096 := by rw [← hs, List.length_map]; exact prS_len
  have HS := Lib.hid hs
  have HK := Lib.hid hk
  have hkk : (k != k) = false := by simp
  clear hs hk
  go_wp2_with fail
  refine (rprint_call (cap := ca) HV2.out.op (HV2.out.toV (by omega)) ere).mono ?_; rintro e w3 hr3
  obtain ⟨o0, c0, rfl, hr0, hb3⟩ := printR_row HS.out HK.out hr3
  have HB3 := Lib.hid (HB2.out.trans (hb3.mono HB2.out.size))
  have HV3 := Lib.hid (HV2.out.below hb3)
  have HW3 := Lib.hid (HW2.out.below hb3)
  have HR0 := Lib.hid hr0
  have HL0 := Lib.hid hr0.lt
  have S3 := Lib.hid hb3.size
  clear hr3 hr0 hb3 HB2 HV2 HW2
  go_wp2_with fail
  refine (print_call (cap := re.length + 64) (HW3.out.toV (by omega) (fun x hx => (HKS.out x hx).2)) (HT.out.below HB3.out) ere).mono ?_; rintro e w4 hr4
  obtain ⟨o1, c1, rfl, hr1, hb4⟩ := printR_row HS.out HK.out hr4
  have HB4 := Lib.hid (HB3.out.trans (hb4.mono HB3.out.size))
  have HV4 := Lib.hid (HV3.out.below hb4)
  have HW4 := Lib.hid (HW3.out.below hb4)
  have HR04 := Lib.hid (HR0.out.below hb4)
  have HR1 := Lib.hid hr1
  have HL1 := Lib.hid hr1.lt
  have S4 := Lib.hid hb4.size
  clear hr4 hr1 hb4 HB3 HV3 HW3 HR0
  go_wp2_with fail
  refine (print_call (cap := re.length + 64) (HW4.out.toV (by omega) (fun x hx => (HKS.out x hx).2)) (HT.out.below HB4.out) ere).mono ?_; rintro e w5 hr5
  obtain ⟨o2, c2, rfl, hr2, hb5⟩ := printR_row HS.out HK.out hr5
  have HB5 := Lib.hid (HB4.out.trans (hb5.mono HB4.out.size))
  have HV5 := Lib.hid (HV4.out.below hb5)
  have HW5 := Lib.hid (HW4.out.below hb5)
  have HR05 := Lib.hid (HR04.out.below hb5)
  have HR15 := Lib.hid (HR1.out.below hb5)
  have HR2 := Lib.hid hr2
  have HL2 := Lib.hid hr2.lt
  have S5 := Lib.hid hb5.size
  clear hr5 hr2 hb5 HB4 HV4 HW4 HR04 HR1
  go_wp2_with fail
  refine (eqMarksR_call (ca := c1) (cb := c0) (MkR.of_row HR15.out (by omega)) (MkR.of_row HR05.out (by omega))).mono ?_; rintro e w6 ⟨rfl, hb6⟩
  rw [show decide (s = s) = true by simp]
  have HB6 := Lib.hid (HB5.out.trans (hb6.mono HB5.out.size))
  have HV6 := Lib.hid (HV5.out.below hb6)
  have HW6 := Lib.hid (HW5.out.below hb6)
  have HR06 := Lib.hid (HR05.out.below hb6)
  have HR16 := Lib.hid (HR15.out.below hb6)
  have HR26 := Lib.hid (HR2.out.below hb6)
  have S6 := Lib.hid hb6.size
  clear hb6 HB5 HV5 HW5 HR05 HR15 HR2
  go_wp2_with fail
  refine (eqNodes_call (ca := re.length + 64) (cb := ca) (HW6.out.toV (by omega) (fun x hx => (HKS.out x hx).2)) (HV6.out.toV (by omega))).mono ?_; rintro e w7 ⟨rfl, hb7⟩
  rw [show decide (re = re) = true by simp]
  have HB7 := Lib.hid (HB6.out.trans (hb7.mono HB6.out.size))
  have HW7 := Lib.hid (HW6.out.below hb7)
  have HR07 := Lib.hid (HR06.out.below hb7)
  have HR17 := Lib.hid (HR16.out.below hb7)
  have HR27 := Lib.hid (HR26.out.below hb7)
  have S7 := Lib.hid hb7.size
  clear hb7 HB6 HV6 HW6 HR06 HR16 HR26
  go_wp2_with fail
  refine (spareNodes_call HW7.out.2 rfl HLE.out).mono ?_; rintro e w8 ⟨rfl, hb8⟩
  have HB8 := Lib.hid (HB7.out.trans (hb8.mono HB7.out.size))
  have HW8 := Lib.hid (HW7.out.below hb8)
  have HR08 := Lib.hid (HR07.out.below hb8)
  have HR18 := Lib.hid (HR17.out.below hb8)
  have HR28 := Lib.hid (HR27.out.below hb8)
  have S8 := Lib.hid hb8.size
  clear hb8 HB7 HW7 HR07 HR17 HR27
  go_wp2_with fail
  go_loopg [13] s.length (fun n iv wr => ∃ (e : Nat) (xs : List Value), iv = .int .i64 (e : Nat) ∧ n = s.length - e ∧ e ≤ s.length ∧ wr.ownsRow w3.heap.size 33 2 (.slice o1 s.length c1) s.length xs ∧ Kept w8 wr (fun k => (Value.slice o1 s.length c1).ownBlock = some k))
  case atStart => exact ⟨0, _, rfl, by omega, by omega, HR18.out, Kept.refl _ _⟩
  case round =>
    obtain ⟨e, xs, rfl, hg, he, ho, hk⟩ := hrel
    have HG := Lib.hid hg
    have HO := Lib.hid ho
    have HKK := Lib.hid hk
    clear hg hk
    by_cases hlt : e < s.length
    · have hlt' : (e : Int) < (s.length : Int) := by omega
      obtain ⟨_, g1, rfl, hg1, hc1, hf1⟩ := own_some ho (by omega)
      obtain ⟨u0, hu0, z0⟩ := hc1 (e * 2) (by omega)
      obtain ⟨u1, hu1, z1⟩ := hc1 (e * 2 + 1) (by omega)
      have f0 := hf1 (e * 2)
      have f1 := hf1 (e * 2 + 1)
      clear ho hc1 hf1 hu0 hu1
      go_wp2_with fail
      go_roundg (s.length - (e + 1))
      case measure => have := HG.out; omega
      case rel => exact ⟨e + 1, _, by go_num, rfl, by omega, (World.ownsRow.stored (World.ownsRow.stored HO.out (e * 2) _).1 (e * 2 + 1) _).1, HKK.out.trans ((Kept.setCell _ _ _).trans (Kept.setCell _ _ _) fun _ _ h => h) fun k _ h => by have h' : k = g1 := h; rw [h']; rfl⟩
    · have hlt' : ¬ (e : Int) < (s.length : Int) := by omega
      have HR09 : Hid (Mks wr w2.heap.size (.slice o0 s.length c0) s) := Lib.hid (HKK.out.row HR08.out fun k h1 h2 => by have := HL0.out k h1; have := HL1.out k h2; omega)
      have HR29 : Hid (Mks wr w4.heap.size (.slice o2 s.length c2) s) := Lib.hid (HKK.out.row HR28.out fun k h1 h2 => by have := HL2.out k h1; have := HL1.out k h2; omega)
      have HW9 : Hid (WideN wr w1.heap.size g re.length re) := ⟨rfl, HKK.out.row HW8.out.2 fun k h1 h2 => by have h3 : g = k := (by simpa [Value.ownBlock] using h1); have := HGG.out; have := HL1.out k h2; have := S3.out; omega⟩
      have HB9 := Lib.hid (HB8.out.trans (HKK.out.below (k := w.heap.size) HB8.out.size fun k h1 h2 => by have := HL1.out k h2; have := S0.out; have := S1.out; have := S2.out; have := S3.out; omega))
      have HR19 := HO
      have S9 := Lib.hid HKK.out.size
      clear ho HKK HR08 HR18 HR28 HW8 HB8 HO
      obtain ⟨w9, rfl⟩ : ∃ w9 : World, w9 = wr := ⟨_, rfl⟩
      go_wp2_with fail
      refine (eqMarksR_call (ca := c2) (cb := c0) (MkR.of_row HR29.out (by omega)) (MkR.of_row HR09.out (by omega))).mono ?_; rintro e9 wa ⟨rfl, hba⟩
      rw [show decide (s = s) = true by simp]
      have HBa := Lib.hid (HB9.out.trans (hba.mono HB9.out.size))
      have HWa := Lib.hid (HW9.out.below hba)
      have HR1a := Lib.hid (row_below HR19.out hba)
      have HR2a := Lib.hid (HR29.out.below hba)
      have Sa := Lib.hid hba.size
      clear hba HB9 HW9 HR09 HR19 HR29
      go_wp2_with fail
      go_loopg [14] re.length (fun n iv wr => ∃ (e : Nat) (M : List Nd), iv = .int .i64 (e : Nat) ∧ n = re.length - e ∧ e ≤ re.length ∧ WideN wr w1.heap.size g re.length M ∧ NdKs M ∧ Kept wa wr (fun k => k = g))
      case atStart => exact ⟨0, re, rfl, by omega, by omega, HWa.out, HKS.out, Kept.refl _ _⟩
      case round =>
        obtain ⟨e, M, rfl, hg, he, hw, hu, hk⟩ := hrel
        have HG2 := Lib.hid hg
        have HW := Lib.hid hw
        have HMK := Lib.hid hu
        have HKK := Lib.hid hk
        clear hg hk
        by_cases hlt : e < re.length
        · have hlt' : (e : Int) < (re.length : Int) := by omega
          obtain ⟨x, hx⟩ : ∃ x, M.getD e Nd.zero = x := ⟨_, rfl⟩
          have hxk := hu.at_ (i := e) (by rw [hw.1]; exact hlt)
          rw [hx] at hxk
          have hgd : (M ++ spareL re.length).getD e Nd.zero = x := by rw [← hx, List.getD_eq_getElem?_getD, List.getD_eq_getElem?_getD, List.getElem?_append_left (by rw [hw.1]; exact hlt)]
          obtain ⟨z0, z1, z2, z3, z4, z5, z6, z7, z8, zf⟩ := hw.2.nine hw.len (show e < re.length + 64 by omega) hgd
          have zf2 := zf (e * 9 + 2)
          have hgl := hw.lt.2
          have HSET := Lib.hid (hw.setW hlt hx)
          have HSK := Lib.hid (hu.set (i := e) (x := setW x (x.set.w1 ^^^ 6#64)) hxk)
          obtain ⟨hop1, hop2⟩ := hxk.1
          clear hw hu hx hxk hgd z1 z3 z4 z5 z6 z7 z8 zf
          by_cases h1 : x.op = 1
          · rw [h1] at z0
            clear h1 hop1 hop2
            go_wp2_with fail
            refine wp_region_segs (X := none) 12 [] [0, 1, 2, 3, 4, 5, 6, 7, 8, 9, 10, 11] (by kernel_rfl) (by kernel_rfl) rfl (fun _ _ _ _ _ h => h) ?_
            simp only [wpSegs, pickSegs_nil, pickOps_nil, pickOps_cons, List.getD_cons_zero, List.getD_cons_succ, List.drop_succ_cons, List.drop_zero]
            repeat (go_big_quiet_step (fail))
            refine wpQuiet_nil ?_
            go_wp2_with fail
            go_roundg (re.length - (e + 1))
            case measure => have := HG2.out; omega
            case rel => exact ⟨e + 1, _, by go_num, rfl, by omega, HSET.out.below (Below.refl _ _).drew, HSK.out, HKK.out.trans ((Kept.setCell _ _ _).trans (Kept.drew _ _) fun _ _ h => h) fun _ _ h => h⟩
          · have h1' : (x.op == 1) = false := beq_eq_false_iff_ne.2 h1
            clear h1
            go_wp2_with fail
            go_roundg (re.length - (e + 1))
            case measure => have := HG2.out; omega
            case rel => exact ⟨e + 1, M, by go_num, rfl, by omega, HW.out, HMK.out, HKK.out⟩
        · have hlt' : ¬ (e : Int) < (re.length : Int) := by omega
          obtain ⟨wb, rfl⟩ : ∃ wb : World, wb = wr := ⟨_, rfl⟩
          have HR1b := Lib.hid (HKK.out.row HR1a.out fun k h1 h2 => by have := HL1.out k h1; have := HGG.out; have := S3.out; omega)
          have HR2b : Hid (Mks wb w4.heap.size (.slice o2 s.length c2) s) := Lib.hid (HKK.out.row HR2a.out fun k h1 h2 => by have := HL2.out k h1; have := HGG.out; have := S3.out; have := S4.out; omega)
          have HBb := Lib.hid (HBa.out.trans (HKK.out.below (k := w.heap.size) HBa.out.size fun k h1 h2 => by have := HGG.out; have := S0.out; have := S1.out; omega))
          have Sb := Lib.hid HKK.out.size
          have HML := Lib.hid hw.1
          have HMB := Lib.hid (show M.length ≤ 4294967296 by have := HLE.out; have := HML.out; omega)
          obtain ⟨s3, hs3⟩ : ∃ s3, bm (prS ere M) = s3 := ⟨_, rfl⟩
          obtain ⟨k3, hk3⟩ : ∃ k3, prE ere M = k3 := ⟨_, rfl⟩
          have hsl3 : s3.length ≤ 4096 := by rw [← hs3, List.length_map]; exact prS_len
          have HS3 := Lib.hid hs3
          have HK3 := Lib.hid hk3
          have hkk3 : (k3 != k3) = false := by simp
          have HC := copyNodesS_call (cap := re.length + 64) (hw.toV HMB.out (fun x hx => (hu x hx).2)).srcAt (by have := HLE.out; have := HML.out; omega)
          rw [HML.out] at HC
          have HCC := Lib.hid HC
          clear hs3 hk3 HC hw hu HKK HR1a HR2a HBa HWa
          go_wp2_with fail
          refine HCC.out.mono ?_; rintro e11 wc ⟨⟨v5, rfl, hm5⟩, hbc⟩
          obtain ⟨o5, c5, rfl, _, hv5⟩ := hm5.toV2 HMB.out (fun x hx => (HMK.out x hx).2)
          have HV5 := Lib.hid hv5
          have HBc := Lib.hid (HBb.out.trans (hbc.mono HBb.out.size))
          have HWc := Lib.hid (HW.out.below hbc)
          have HR1c := Lib.hid (row_below HR1b.out hbc)
          have HR2c := Lib.hid (HR2b.out.below hbc)
          have Sc := Lib.hid hbc.size
          clear hm5 hv5 hbc HCC HBb HW HR1b HR2b
          go_wp2_with fail
          refine (rprint_call (cap := c5) (Lib.hid fun x hx => (HMK.out x hx).1) HV5.out ere).mono ?_; rintro e12 wd hr6
          obtain ⟨o6, c6, rfl, hr6, hbd⟩ := printR_row HS3.out HK3.out hr6
          have HBd := Lib.hid (HBc.out.trans (hbd.mono HBc.out.size))
          have HWd := Lib.hid (HWc.out.below hbd)
          have HR1d := Lib.hid (row_below HR1c.out hbd)
          have HR2d := Lib.hid (HR2c.out.below hbd)
          have HR6 := Lib.hid hr6
          have Sd := Lib.hid hbd.size
          clear hr6 hbd HBc HWc HR1c HR2c HV5
          have HT3 := print_call (cap := re.length + 64) (HWd.out.toV HMB.out (fun x hx => (HMK.out x hx).2)) (HT.out.below HBd.out) ere
          rw [HML.out] at HT3
          have HTT := Lib.hid HT3
          clear HT3
          go_wp2_with fail
          refine HTT.out.mono ?_; rintro e13 we hr3
          obtain ⟨o3, c3, rfl, hr3, hbe⟩ := printR_row HS3.out HK3.out hr3
          have HBe := Lib.hid (HBd.out.trans (hbe.mono HBd.out.size))
          have HWe := Lib.hid (HWd.out.below hbe)
          have HR1e := Lib.hid (row_below HR1d.out hbe)
          have HR2e := Lib.hid (HR2d.out.below hbe)
          have HR6e := Lib.hid (HR6.out.below hbe)
          have HR3 := Lib.hid hr3
          have HL3 := Lib.hid hr3.lt
          have Se := Lib.hid hbe.size
          clear hr3 hbe HTT HBd HWd HR1d HR2d HR6
          go_wp2_with fail
          refine (eqMarksR_call (ca := c3) (cb := c6) (MkR.of_row HR3.out (by omega)) (MkR.of_row HR6e.out (by omega))).mono ?_; rintro e14 wf ⟨rfl, hbf⟩
          rw [show decide (s3 = s3) = true by simp]
          have HBf := Lib.hid (HBe.out.trans (hbf.mono HBe.out.size))
          have HWf := Lib.hid (HWe.out.below hbf)
          have HR1f := Lib.hid (row_below HR1e.out hbf)
          have HR2f := Lib.hid (HR2e.out.below hbf)
          have HR3f := Lib.hid (HR3.out.below hbf)
          have Sf := Lib.hid hbf.size
          clear hbf HBe HWe HR1e HR2e HR3 HR6e
          go_upto_region 26 with fail
          have hbag : bagAt (wf.alloc (.cells #[.slice none 0 0, .slice none 0 0, .slice none 0 0, .slice none 0 0, .slice none 0 0, .slice none 0 0, .slice none 0 0, .slice none 0 0, .slice none 0 0, .slice none 0 0, .slice none 0 0, .slice none 0 0, .slice none 0 0, .slice none 0 0, .slice none 0 0, .slice none 0 0, .slice none 0 0, .slice none 0 0, .slice none 0 0] 61)) wf.heap.size (.slice none 0 0) (.slice none 0 0) (.slice none 0 0) := bagAt.new wf
          have hkb : Kept wf (wf.alloc (.cells #[.slice none 0 0, .slice none 0 0, .slice none 0 0, .slice none 0 0, .slice none 0 0, .slice none 0 0, .slice none 0 0, .slice none 0 0, .slice none 0 0, .slice none 0 0, .slice none 0 0, .slice none 0 0, .slice none 0 0, .slice none 0 0, .slice none 0 0, .slice none 0 0, .slice none 0 0, .slice none 0 0, .slice none 0 0] 61)) (fun _ => False) := Kept.alloc _ _ _
          revert hbag hkb
          generalize wf.alloc (.cells #[.slice none 0 0, .slice none 0 0, .slice none 0 0, .slice none 0 0, .slice none 0 0, .slice none 0 0, .slice none 0 0, .slice none 0 0, .slice none 0 0, .slice none 0 0, .slice none 0 0, .slice none 0 0, .slice none 0 0, .slice none 0 0, .slice none 0 0, .slice none 0 0, .slice none 0 0, .slice none 0 0, .slice none 0 0] 61) = wg
          generalize hgb : wf.heap.size = gb
          intro hbag hkb
          have HGB := Lib.hid hgb
          have HBag := Lib.hid hbag
          have HKB := Lib.hid hkb
          clear hbag hkb hgb
          go_wp2_with fail
          refine (addMarks_call HBag.out (vs := []) (World.ownsRow_nil _ _ _ _) (by simp) o1 s.length c1).mono ?_; rintro e16 w16 ⟨rfl, b16, hbag, hrow, hk, hbk⟩
          have HBag2 := Lib.hid hbag
          have HRow2 := Lib.hid hrow
          have HKB2 := Lib.hid (HKB.out.trans hk fun k h1 h2 => by rcases h2 with h2 | h2; (have := HGB.out; omega); simp [Value.ownBlock] at h2)
          clear hbag hrow hk hbk HBag HKB
          go_wp2_with fail
          refine (addMarks_call HBag2.out HRow2.out (by simp) o2 s.length c2).mono ?_; rintro e17 w17 ⟨rfl, b17, hbag, hrow, hk, hbk⟩
          have HBag3 := Lib.hid hbag
          have HRow3 := Lib.hid hrow
          have HKB3 := Lib.hid (HKB2.out.trans hk fun k h1 h2 => by rcases h2 with h2 | h2; (have := HGB.out; omega); (have := (HRow2.out.lt k h2).1; have := HGB.out; omega))
          clear hbag hrow hk hbk HBag2 HKB2 HRow2
          go_wp2_with fail
          refine (addMarks_call HBag3.out HRow3.out (by simp) o3 s3.length c3).mono ?_; rintro e18 w18 ⟨rfl, b18, hbag, hrow, hk, hbk⟩
          have HBag4 := Lib.hid hbag
          have HRow4 := Lib.hid hrow
          have HKB4 := Lib.hid (HKB3.out.trans hk fun k h1 h2 => by rcases h2 with h2 | h2; (have := HGB.out; omega); (have := (HRow3.out.lt k h2).1; have := HGB.out; omega))
          clear hbag hrow hk hbk HBag3 HKB3 HRow3
          go_wp2_with fail
          refine (addNodes_call HBag4.out (vs := []) (World.ownsRow_nil _ _ _ _) (by simp) (some ⟨g, 0, none⟩) re.length (re.length + 64)).mono ?_; rintro e19 w19 ⟨rfl, b19, hbag, hrow, hk, hbk⟩
          have HBag5 := Lib.hid hbag
          have HRowN := Lib.hid hrow
          have HRow5 := Lib.hid (hk.row HRow4.out fun k h1 h2 => by have := (HRow4.out.lt k h1).1; rcases h2 with h2 | h2; omega; simp [Value.ownBlock] at h2)
          have HKB5 := Lib.hid (HKB4.out.trans hk fun k h1 h2 => by rcases h2 with h2 | h2; (have := HGB.out; omega); simp [Value.ownBlock] at h2)
          clear hbag hrow hk hbk HBag4 HKB4 HRow4
          have HR1g := Lib.hid (HKB5.out.row HR1f.out fun _ _ h => h)
          have HR2g := Lib.hid (HKB5.out.row HR2f.out fun _ _ h => h)
          have HR3g := Lib.hid (HKB5.out.row HR3f.out fun _ _ h => h)
          have HWg := Lib.hid (HKB5.out.row HWf.out.short fun _ _ h => h)
          have ORD := Lib.hid (show w.heap.size ≤ w1.heap.size ∧ w1.heap.size ≤ g ∧ g < w2.heap.size ∧ w2.heap.size ≤ w3.heap.size ∧ w3.heap.size ≤ w4.heap.size ∧ w4.heap.size ≤ w5.heap.size ∧ w5.heap.size ≤ wd.heap.size ∧ wd.heap.size ≤ we.heap.size ∧ we.heap.size ≤ gb by
            have := S0.out; have := S1.out; have := S2.out; have := S3.out; have := S4.out; have := S5.out; have := S6.out; have := S7.out; have := S8.out; have := S9.out; have := Sa.out; have := Sb.out; have := Sc.out; have := Sd.out; have := Se.out; have := Sf.out; have := HGG.out; have := HGB.out; omega)
          have hM : BgM w19 w.heap.size [.slice o1 s.length c1, .slice o2 s.length c2, .slice o3 s3.length c3] [s.length, s.length, s3.length] (fun i => [xs, mksC s, mksC s3].getD i []) gb b18 := by
            have o := ORD.out
            refine Bgl.of rfl (fun i v n hv hn => ?_) (fun i v k hv hk => ?_) (rising_three (fun x y hx hy => ?_) (fun x y hx hy => ?_) (fun x y hx hy => ?_)).ap HRow5.out (by omega) (HBag5.out.cell 4) HBag5.out.lt
            · match i, hv, hn with
              | 0, hv, hn => cases hv; cases hn; exact ownsRow_mono HR1g.out (by omega)
              | 1, hv, hn => cases hv; cases hn; exact ownsRow_mono HR2g.out (by omega)
              | 2, hv, hn => cases hv; cases hn; exact ownsRow_mono HR3g.out (by omega)
            · rcases blk_three ⟨i, v, hv, hk⟩ with h | h | h
              · have := HL1.out k h; omega
              · have := HL2.out k h; omega
              · have := HL3.out k h; omega
            · have := HL1.out x hx; have := HL2.out y hy; omega
            · have := HL1.out x hx; have := HL3.out y hy; omega
            · have := HL2.out x hx; have := HL3.out y hy; omega
          have hN : BgN w19 w.heap.size [.slice (some ⟨g, 0, none⟩) re.length (re.length + 64)] [re.length] (fun _ => ndsC M) gb b19 := by
            have o := ORD.out
            refine Bgl.of rfl (fun i v n hv hn => ?_) (fun i v k hv hk => ?_) (rising_one _).ap HRowN.out (by omega) (HBag5.out.cell 8) HBag5.out.lt
            · match i, hv, hn with
              | 0, hv, hn => cases hv; cases hn; exact ownsRow_mono HWg.out (by omega)
            · have h := blk_one ⟨i, v, hv, hk⟩
              have h' : g = k := by simpa [Value.ownBlock] using h
              omega
          have hB : BgB w19 w.heap.size [] [] (fun _ => []) gb (.slice none 0 0) :=
            Bgl.of rfl (fun i v n hv hn => by simp at hv) (fun i v k hv hk => by simp at hv) rising_nil.ap (World.ownsRow_nil _ _ _ _) (by have := ORD.out; omega) (HBag5.out.cell 0) HBag5.out.lt
          have hbag3 : Bag3 w19 w.heap.size gb [] [] (fun _ => []) (.slice none 0 0) [.slice o1 s.length c1, .slice o2 s.length c2, .slice o3 s3.length c3] [s.length, s.length, s3.length] (fun i => [xs, mksC s, mksC s3].getD i []) b18 [.slice (some ⟨g, 0, none⟩) re.length (re.length + 64)] [re.length] (fun _ => ndsC M) b19 := by
            have o := ORD.out
            refine ⟨HBag5.out, hB, hM, hN, fun k hk => absurd hk (blk_nil k), fun k hk => absurd hk (blk_nil k), fun k hk => ⟨blk_nil k, by simp [Value.ownBlock]⟩, fun k hk => ⟨fun hm => ?_, fun hm => ?_⟩, fun k hk => ⟨blk_nil k, by simp [Value.ownBlock]⟩, fun k hk => ⟨fun hm => ?_, fun hm => ?_⟩⟩
            · have h' : g = k := by simpa [Value.ownBlock] using blk_one hm
              rcases blk_three hk with h | h | h
              · have := HL1.out k h; omega
              · have := HL2.out k h; omega
              · have := HL3.out k h; omega
            · have := (HRowN.out.lt k hm).1
              rcases blk_three hk with h | h | h
              · have := HL1.out k h; omega
              · have := HL2.out k h; omega
              · have := HL3.out k h; omega
            · have h' : g = k := by simpa [Value.ownBlock] using blk_one hk
              rcases blk_three hm with h | h | h
              · have := HL1.out k h; omega
              · have := HL2.out k h; omega
              · have := HL3.out k h; omega
            · have h' : g = k := by simpa [Value.ownBlock] using blk_one hk
              have := (HRow5.out.lt k hm).1
              omega
          have HBG3 := Lib.hid hbag3
          clear hbag3 hB hM hN
          go_wp2_with fail
          refine (Apart_call (by have := HKB5.out.size; have := ORD.out; have := HGB.out; omega) (by simp) (by simp) (by simp) (fun i n hn => by simp at hn) (fun i n hn => ?_) (fun i n hn => ?_) HBG3.out).mono ?_
          · match i, hn with
            | 0, hn => cases hn; omega
            | 1, hn => cases hn; omega
            | 2, hn => cases hn; omega
          · match i, hn with
            | 0, hn => cases hn; have := HLE.out; omega
          rintro e20 w20 ⟨rfl, hk20, _⟩
          have HK20 := Lib.hid hk20
          clear hk20
          go_wp2_with fail
          go_ret
          refine ⟨rfl, (HBf.out.trans (HKB5.out.below (k := w.heap.size) HBf.out.size fun _ _ h => h)).trans (HK20.out.below (k := w.heap.size) (by have := HKB5.out.size; have := HBf.out.size; omega) fun k h1 h2 => ?_)⟩
          have o := ORD.out
          rcases h2 with h2 | h2 | h2
          · exact blk_nil k h2
          · rcases blk_three h2 with h | h | h
            · have := HL1.out k h; omega
            · have := HL2.out k h; omega
            · have := HL3.out k h; omega
          · have h' : g = k := by simpa [Value.ownBlock] using blk_one h2
            omega
end Go.Proofs.YtbdjcmhfcdamiaaGreatDoor
