/- Parts: Bn. -/
import Derived.Test.YtbdjcmhfcdamiaaDoorQ35
import Derived.Test.YtbdjcmhfcdamiaaDoorQ36
import Derived.Test.YtbdjcmhfcdamiaaDoorQ31
import Derived.Test.YtbdjcmhfcdamiaaDoorQ27
/- SpellTexts' walk. -/
namespace Go.Proofs.YtbdjcmhfcdamiaaDoor
open Go.RowKit

set_option maxRecDepth 100000 in
set_option maxHeartbeats 12800000 in
theorem texts_all {w : World} {L : List Mk} {oa : Option Addr} {ca : Nat} (d : Nat) (hd : d < 256) (hL : L.length ≤ 70368744177664) (hv : MkV w oa ca L) (ht : Tabs w) :
    Calls Tryd.prog 3 #[.slice oa L.length ca, .int .u8 (d : Nat)] w fun e w' => e = .returned (.bool true) ∧ Below w.heap.size w w' := by
  have HT := Lib.hid ht
  have HV := Lib.hid hv
  clear ht hv
  go_enter Tryd.func3, Tryd.ntmps3
  go_wp2_with fail
  refine (long_call _).mono ?_; rintro e wa ⟨rfl, rfl⟩
  by_cases q1 : (2147483647 : Int) < 2 * (L.length : Int)
  · rw [decide_eq_true q1]
    clear q1
    go_wp2_with fail
    go_ret
    exact ⟨rfl, Below.refl _ _⟩
  rw [decide_eq_false q1]
  have HLEN := Lib.hid (show L.length ≤ 1073741823 by omega)
  have hL64 : (L.length : Int) ≤ 1073741823 := by omega
  clear q1 hL
  go_wp2_with fail
  refine (lives_call HT.out).mono ?_; rintro e w1 ⟨rfl, hb1⟩
  have HB1 := Lib.hid hb1
  have HV1 := Lib.hid (HV.out.below hb1)
  have S1 := Lib.hid hb1.size
  clear hb1 HT
  go_wp2_with fail
  refine (wideMarks_call HV1.out (by have := HLEN.out; omega)).mono ?_; rintro e w2 ⟨⟨g, rfl, hw2⟩, hb2⟩
  have HB2 := Lib.hid (HB1.out.trans (hb2.mono HB1.out.size))
  have HV2 := Lib.hid (HV1.out.below hb2)
  have HW2 := Lib.hid hw2
  have HGG := Lib.hid hw2.lt
  have S2 := Lib.hid hb2.size
  clear hb2 hw2 HB1 HV1
  have HU := Lib.hid (show ∀ m ∈ L, m.b < 256 from fun m hm => by
    obtain ⟨i, hi⟩ := List.getElem?_of_mem hm
    obtain ⟨hlt, rfl⟩ := List.getElem?_eq_some_iff.1 hi
    have := HV2.out.u i hlt
    simpa [markAt, List.getD_eq_getElem?_getD, hlt] using this)
  obtain ⟨s, hs⟩ : ∃ s, (textL d L).getD [] = s := ⟨_, rfl⟩
  obtain ⟨b, hb⟩ : ∃ b, (textL d L).isSome = b := ⟨_, rfl⟩
  have hsl : s.length ≤ 2147483646 := by rw [← hs]; have := textL_len (d := d) (L := L); have := HLEN.out; omega
  have HS := Lib.hid hs
  have HBB := Lib.hid hb
  have hbb : (b != b) = false := by cases b <;> rfl
  clear hs hb
  go_wp2_with fail
  refine (rtext_call (cap := ca) (HV2.out.inn (by have := HLEN.out; omega)) d hd).mono ?_; rintro e w3 hr3
  obtain ⟨o0, c0, rfl, hr0, hb3⟩ := textR_row HS.out HBB.out hr3
  have HB3 := Lib.hid (HB2.out.trans (hb3.mono HB2.out.size))
  have HV3 := Lib.hid (HV2.out.below hb3)
  have HW3 := Lib.hid (HW2.out.below hb3)
  have HR0 := Lib.hid hr0
  have HL0 := Lib.hid hr0.lt
  have S3 := Lib.hid hb3.size
  clear hr3 hr0 hb3 HB2 HV2 HW2
  go_wp2_with fail
  refine (text_call (cap := L.length + 64) ((HW3.out.toV HU.out).inn (by have := HLEN.out; omega)) d hd).mono ?_; rintro e w4 hr4
  obtain ⟨o1, c1, rfl, hr1, hb4⟩ := textR_row HS.out HBB.out hr4
  have HB4 := Lib.hid (HB3.out.trans (hb4.mono HB3.out.size))
  have HV4 := Lib.hid (HV3.out.below hb4)
  have HW4 := Lib.hid (HW3.out.below hb4)
  have HR04 := Lib.hid (row_below HR0.out hb4)
  have HR1 := Lib.hid hr1
  have HL1 := Lib.hid hr1.lt
  have S4 := Lib.hid hb4.size
  clear hr4 hr1 hb4 HB3 HV3 HW3 HR0
  go_wp2_with fail
  refine (text_call (cap := L.length + 64) ((HW4.out.toV HU.out).inn (by have := HLEN.out; omega)) d hd).mono ?_; rintro e w5 hr5
  obtain ⟨o2, c2, rfl, hr2, hb5⟩ := textR_row HS.out HBB.out hr5
  have HB5 := Lib.hid (HB4.out.trans (hb5.mono HB4.out.size))
  have HV5 := Lib.hid (HV4.out.below hb5)
  have HW5 := Lib.hid (HW4.out.below hb5)
  have HR05 := Lib.hid (row_below HR04.out hb5)
  have HR15 := Lib.hid (row_below HR1.out hb5)
  have HR2 := Lib.hid hr2
  have HL2 := Lib.hid hr2.lt
  have S5 := Lib.hid hb5.size
  clear hr5 hr2 hb5 HB4 HV4 HW4 HR04 HR1
  go_wp2_with fail
  refine (eqBytes_call (ca := c1) (cb := c0) (BtIn.of_row HR15.out (by omega)) (BtIn.of_row HR05.out (by omega))).mono ?_; rintro e w6 ⟨rfl, hb6⟩
  rw [show decide (s = s) = true by simp]
  have HB6 := Lib.hid (HB5.out.trans (hb6.mono HB5.out.size))
  have HV6 := Lib.hid (HV5.out.below hb6)
  have HW6 := Lib.hid (HW5.out.below hb6)
  have HR06 := Lib.hid (row_below HR05.out hb6)
  have HR16 := Lib.hid (row_below HR15.out hb6)
  have HR26 := Lib.hid (row_below HR2.out hb6)
  have S6 := Lib.hid hb6.size
  clear hb6 HB5 HV5 HW5 HR05 HR15 HR2
  go_wp2_with fail
  refine (eqMarks_call (ca := L.length + 64) (cb := ca) ((HW6.out.toV HU.out).inn (by have := HLEN.out; omega)) (HV6.out.inn (by have := HLEN.out; omega))).mono ?_; rintro e w7 ⟨rfl, hb7⟩
  rw [show decide (L = L) = true by simp]
  have HB7 := Lib.hid (HB6.out.trans (hb7.mono HB6.out.size))
  have HW7 := Lib.hid (HW6.out.below hb7)
  have HR07 := Lib.hid (row_below HR06.out hb7)
  have HR17 := Lib.hid (row_below HR16.out hb7)
  have HR27 := Lib.hid (row_below HR26.out hb7)
  have S7 := Lib.hid hb7.size
  clear hb7 HB6 HV6 HW6 HR06 HR16 HR26
  go_wp2_with fail
  refine (spareMarks_call HW7.out (by have := HLEN.out; omega)).mono ?_; rintro e w8 ⟨rfl, rfl⟩
  go_wp2_with fail
  go_loopg [13] s.length (fun n iv wr => ∃ (e : Nat) (xs : List Value), iv = .int .i64 (e : Nat) ∧ n = s.length - e ∧ e ≤ s.length ∧ wr.ownsRow w3.heap.size 5 1 (.slice o1 s.length c1) s.length xs ∧ Bytes1 xs ∧ Kept w7 wr (fun k => (Value.slice o1 s.length c1).ownBlock = some k))
  case atStart => exact ⟨0, _, rfl, by omega, by omega, HR17.out, bytes1_u8s _, Kept.refl _ _⟩
  case round =>
    obtain ⟨e, xs, rfl, hg, he, ho, hx, hk⟩ := hrel
    have HG := Lib.hid hg
    have HO := Lib.hid ho
    have HX := Lib.hid hx
    have HK := Lib.hid hk
    clear hg hx hk
    by_cases hlt : e < s.length
    · have hlt' : (e : Int) < (s.length : Int) := by omega
      obtain ⟨_, g1, rfl, hg1, hc1, hf1⟩ := own_some ho (by omega)
      obtain ⟨u0, hu0, z0⟩ := hc1 e (by omega)
      obtain ⟨z, rfl⟩ := HX.out e _ hu0
      have f0 := hf1 e
      clear ho hc1 hf1 hu0
      go_wp2_with fail
      go_roundg (s.length - (e + 1))
      case measure => have := HG.out; omega
      case rel => exact ⟨e + 1, _, by go_num, rfl, by omega, (World.ownsRow.stored HO.out e _).1, HX.out.set e _, HK.out.trans (Kept.setCell _ _ _) fun k _ h => by have h' : k = g1 := h; rw [h']; rfl⟩
    · have hlt' : ¬ (e : Int) < (s.length : Int) := by omega
      have HR08 := Lib.hid (HK.out.row HR07.out fun k h1 h2 => by have := HL0.out k h1; have := HL1.out k h2; omega)
      have HR28 := Lib.hid (HK.out.row HR27.out fun k h1 h2 => by have := HL2.out k h1; have := HL1.out k h2; omega)
      have HW8 : Hid (WideM wr w1.heap.size g L.length L) := ⟨HW7.out.1, HK.out.row HW7.out.2 fun k h1 h2 => by have h3 : g = k := (by simpa [Value.ownBlock] using h1); have := HGG.out; have := HL1.out k h2; have := S3.out; omega⟩
      have HB8 := Lib.hid (HB7.out.trans (HK.out.below (k := w.heap.size) HB7.out.size fun k h1 h2 => by have := HL1.out k h2; have := S1.out; have := S2.out; have := S3.out; omega))
      have HR18 := HO
      have S8 := Lib.hid HK.out.size
      clear ho HX HK HR07 HR17 HR27 HW7 HB7 HO
      obtain ⟨w8, rfl⟩ : ∃ w8 : World, w8 = wr := ⟨_, rfl⟩
      go_wp2_with fail
      refine (eqBytes_call (ca := c2) (cb := c0) (BtIn.of_row HR28.out (by omega)) (BtIn.of_row HR08.out (by omega))).mono ?_; rintro e9 w9 ⟨rfl, hb9⟩
      rw [show decide (s = s) = true by simp]
      have HB9 := Lib.hid (HB8.out.trans (hb9.mono HB8.out.size))
      have HW9 := Lib.hid (HW8.out.below hb9)
      have HR19 := Lib.hid (row_below HR18.out hb9)
      have HR29 := Lib.hid (row_below HR28.out hb9)
      have S9 := Lib.hid hb9.size
      clear hb9 HB8 HW8 HR08 HR18 HR28
      go_wp2_with fail
      go_loopg [14] L.length (fun n iv wr => ∃ (e : Nat) (M : List Mk), iv = .int .i64 (e : Nat) ∧ n = L.length - e ∧ e ≤ L.length ∧ WideM wr w1.heap.size g L.length M ∧ (∀ m ∈ M, m.b < 256) ∧ Kept w9 wr (fun k => k = g))
      case atStart => exact ⟨0, L, rfl, by omega, by omega, HW9.out, HU.out, Kept.refl _ _⟩
      case round =>
        obtain ⟨e, M, rfl, hg, he, hw, hu, hk⟩ := hrel
        have HG2 := Lib.hid hg
        have HW := Lib.hid hw
        have HUM := Lib.hid hu
        have HK := Lib.hid hk
        clear hg hk
        by_cases hlt : e < L.length
        · have hlt' : (e : Int) < (L.length : Int) := by omega
          obtain ⟨m, hm⟩ : ∃ m, M[e]? = some m := ⟨_, List.getElem?_eq_getElem (by rw [hw.1]; exact hlt)⟩
          obtain ⟨b0, p0⟩ := m
          obtain ⟨z0, z1⟩ := hw.two (show (M ++ spareMs L.length)[e]? = some ⟨b0, p0⟩ by rw [List.getElem?_append_left (by rw [hw.1]; exact hlt)]; exact hm)
          have hgl := hw.lt.2
          have hb0 : b0 < 256 := hu _ (List.mem_of_getElem? hm)
          have zf := World.ownsRow.frozenAt hw.row (e * 2)
          simp only at z0 z1
          have hset := hw.setB (b' := b0 + 1) hm
          rw [show ((b0 + 1 : Nat) : Int) = (b0 : Int) + 1 by omega] at hset
          have HSET := Lib.hid hset
          clear hw hu hm hset
          by_cases h1 : 97 < b0
          · have h1' : (97 : Int) < (b0 : Int) := by omega
            by_cases h2 : b0 ≤ 121
            · have h2' : (b0 : Int) ≤ 121 := by omega
              cases p0 with
              | false =>
                go_wp2_with fail
                go_roundg (L.length - (e + 1))
                case measure => have := HG2.out; omega
                case rel =>
                  refine ⟨e + 1, M.set e ⟨b0 + 1, false⟩, by go_num, rfl, by omega, HSET.out, fun m hm => ?_, HK.out.trans (Kept.setCell _ _ _) fun _ _ h => h⟩
                  rcases List.mem_or_eq_of_mem_set hm with h | h
                  · exact HUM.out m h
                  · rw [h]; show b0 + 1 < 256; omega
              | true =>
                go_wp2_with fail
                go_roundg (L.length - (e + 1))
                case measure => have := HG2.out; omega
                case rel => exact ⟨e + 1, M, by go_num, rfl, by omega, HW.out, HUM.out, HK.out⟩
            · have h2' : ¬ (b0 : Int) ≤ 121 := by omega
              go_wp2_with fail
              go_roundg (L.length - (e + 1))
              case measure => have := HG2.out; omega
              case rel => exact ⟨e + 1, M, by go_num, rfl, by omega, HW.out, HUM.out, HK.out⟩
          · have h1' : ¬ (97 : Int) < (b0 : Int) := by omega
            go_wp2_with fail
            go_roundg (L.length - (e + 1))
            case measure => have := HG2.out; omega
            case rel => exact ⟨e + 1, M, by go_num, rfl, by omega, HW.out, HUM.out, HK.out⟩
        · have hlt' : ¬ (e : Int) < (L.length : Int) := by omega
          obtain ⟨w10, rfl⟩ : ∃ w10 : World, w10 = wr := ⟨_, rfl⟩
          have HR1a := Lib.hid (HK.out.row HR19.out fun k h1 h2 => by have := HL1.out k h1; have := HGG.out; have := S3.out; omega)
          have HR2a := Lib.hid (HK.out.row HR29.out fun k h1 h2 => by have := HL2.out k h1; have := HGG.out; have := S3.out; have := S4.out; omega)
          have HBa := Lib.hid (HB9.out.trans (HK.out.below (k := w.heap.size) HB9.out.size fun k h1 h2 => by have := HGG.out; have := S1.out; omega))
          have Sa := Lib.hid HK.out.size
          have HML := Lib.hid hw.1
          obtain ⟨s3, hs3⟩ : ∃ s3, (textL d M).getD [] = s3 := ⟨_, rfl⟩
          obtain ⟨b3, hb3⟩ : ∃ b3, (textL d M).isSome = b3 := ⟨_, rfl⟩
          have hsl3 : s3.length ≤ 2147483646 := by rw [← hs3]; have := textL_len (d := d) (L := M); have := HLEN.out; have := HML.out; omega
          have HS3 := Lib.hid hs3
          have HBB3 := Lib.hid hb3
          have hbb3 : (b3 != b3) = false := by cases b3 <;> rfl
          have HC := copyMarks_call (hw.toV hu) (by have := HLEN.out; have := HML.out; omega)
          rw [HML.out] at HC
          have HCC := Lib.hid HC
          clear hs3 hb3 HC hw hu HK HR19 HR29 HB9 HW9
          go_wp2_with fail
          refine HCC.out.mono ?_; rintro e11 w11 ⟨⟨v5, rfl, hm5⟩, hb11⟩
          obtain ⟨o5, c5, rfl, hk5⟩ := MkIn.of_own hm5 (by have := HLEN.out; have := HML.out; omega) HUM.out
          have HK5 := Lib.hid hk5
          have HBb := Lib.hid (HBa.out.trans (hb11.mono HBa.out.size))
          have HWb := Lib.hid (HW.out.below hb11)
          have HR1b := Lib.hid (row_below HR1a.out hb11)
          have HR2b := Lib.hid (row_below HR2a.out hb11)
          have Sb := Lib.hid hb11.size
          clear hm5 hk5 hb11 HCC HBa HW HR1a HR2a
          go_wp2_with fail
          refine (rtext_call (cap := c5) HK5.out d hd).mono ?_; rintro e12 w12 hr12
          obtain ⟨o6, c6, rfl, hr6, hb12⟩ := textR_row HS3.out HBB3.out hr12
          have HBc := Lib.hid (HBb.out.trans (hb12.mono HBb.out.size))
          have HWc := Lib.hid (HWb.out.below hb12)
          have HR1c := Lib.hid (row_below HR1b.out hb12)
          have HR2c := Lib.hid (row_below HR2b.out hb12)
          have HR6 := Lib.hid hr6
          have Sc := Lib.hid hb12.size
          clear hr12 hr6 hb12 HBb HWb HR1b HR2b HK5
          have HT3 := text_call (cap := L.length + 64) ((HWc.out.toV HUM.out).inn (by have := HLEN.out; have := HML.out; omega)) d hd
          rw [HML.out] at HT3
          have HTT := Lib.hid HT3
          clear HT3
          go_wp2_with fail
          refine HTT.out.mono ?_; rintro e13 w13 hr13
          obtain ⟨o3, c3, rfl, hr3, hb13⟩ := textR_row HS3.out HBB3.out hr13
          have HBd := Lib.hid (HBc.out.trans (hb13.mono HBc.out.size))
          have HWd := Lib.hid (HWc.out.below hb13)
          have HR1d := Lib.hid (row_below HR1c.out hb13)
          have HR2d := Lib.hid (row_below HR2c.out hb13)
          have HR6d := Lib.hid (row_below HR6.out hb13)
          have HR3 := Lib.hid hr3
          have HL3 := Lib.hid hr3.lt
          have Sd := Lib.hid hb13.size
          clear hr13 hr3 hb13 HTT HBc HWc HR1c HR2c HR6
          go_wp2_with fail
          refine (eqBytes_call (ca := c3) (cb := c6) (BtIn.of_row HR3.out (by omega)) (BtIn.of_row HR6d.out (by omega))).mono ?_; rintro e14 w14 ⟨rfl, hb14⟩
          rw [show decide (s3 = s3) = true by simp]
          have HBe := Lib.hid (HBd.out.trans (hb14.mono HBd.out.size))
          have HWe := Lib.hid (HWd.out.below hb14)
          have HR1e := Lib.hid (row_below HR1d.out hb14)
          have HR2e := Lib.hid (row_below HR2d.out hb14)
          have HR3e := Lib.hid (row_below HR3.out hb14)
          have Se := Lib.hid hb14.size
          clear hb14 HBd HWd HR1d HR2d HR3 HR6d
          go_upto_region 26 with fail
          have hbag : bagAt (w14.alloc (.cells #[.slice none 0 0, .slice none 0 0, .slice none 0 0, .slice none 0 0, .slice none 0 0, .slice none 0 0, .slice none 0 0, .slice none 0 0, .slice none 0 0, .slice none 0 0, .slice none 0 0, .slice none 0 0, .slice none 0 0, .slice none 0 0, .slice none 0 0, .slice none 0 0, .slice none 0 0, .slice none 0 0, .slice none 0 0] 55)) w14.heap.size (.slice none 0 0) (.slice none 0 0) (.slice none 0 0) := bagAt.new w14
          have hkb : Kept w14 (w14.alloc (.cells #[.slice none 0 0, .slice none 0 0, .slice none 0 0, .slice none 0 0, .slice none 0 0, .slice none 0 0, .slice none 0 0, .slice none 0 0, .slice none 0 0, .slice none 0 0, .slice none 0 0, .slice none 0 0, .slice none 0 0, .slice none 0 0, .slice none 0 0, .slice none 0 0, .slice none 0 0, .slice none 0 0, .slice none 0 0] 55)) (fun _ => False) := Kept.alloc _ _ _
          revert hbag hkb
          generalize w14.alloc (.cells #[.slice none 0 0, .slice none 0 0, .slice none 0 0, .slice none 0 0, .slice none 0 0, .slice none 0 0, .slice none 0 0, .slice none 0 0, .slice none 0 0, .slice none 0 0, .slice none 0 0, .slice none 0 0, .slice none 0 0, .slice none 0 0, .slice none 0 0, .slice none 0 0, .slice none 0 0, .slice none 0 0, .slice none 0 0] 55) = w15
          generalize hgb : w14.heap.size = gb
          intro hbag hkb
          have HGB := Lib.hid hgb
          have HBag := Lib.hid hbag
          have HKB := Lib.hid hkb
          clear hbag hkb hgb
          go_wp2_with fail
          refine (addBytes_call HBag.out (vs := []) (World.ownsRow_nil _ _ _ _) (by simp) o1 s.length c1).mono ?_; rintro e16 w16 ⟨rfl, b16, hbag, hrow, hk, hbk⟩
          have HBag2 := Lib.hid hbag
          have HRow2 := Lib.hid hrow
          have HKB2 := Lib.hid (HKB.out.trans hk fun k h1 h2 => by rcases h2 with h2 | h2; (have := HGB.out; omega); simp [Value.ownBlock] at h2)
          clear hbag hrow hk hbk HBag HKB
          go_wp2_with fail
          refine (addBytes_call HBag2.out HRow2.out (by simp) o2 s.length c2).mono ?_; rintro e17 w17 ⟨rfl, b17, hbag, hrow, hk, hbk⟩
          have HBag3 := Lib.hid hbag
          have HRow3 := Lib.hid hrow
          have HKB3 := Lib.hid (HKB2.out.trans hk fun k h1 h2 => by rcases h2 with h2 | h2; (have := HGB.out; omega); (have := (HRow2.out.lt k h2).1; have := HGB.out; omega))
          clear hbag hrow hk hbk HBag2 HKB2 HRow2
          go_wp2_with fail
          refine (addBytes_call HBag3.out HRow3.out (by simp) o3 s3.length c3).mono ?_; rintro e18 w18 ⟨rfl, b18, hbag, hrow, hk, hbk⟩
          have HBag4 := Lib.hid hbag
          have HRow4 := Lib.hid hrow
          have HKB4 := Lib.hid (HKB3.out.trans hk fun k h1 h2 => by rcases h2 with h2 | h2; (have := HGB.out; omega); (have := (HRow3.out.lt k h2).1; have := HGB.out; omega))
          clear hbag hrow hk hbk HBag3 HKB3 HRow3
          go_wp2_with fail
          refine (addMarks_call HBag4.out (vs := []) (World.ownsRow_nil _ _ _ _) (by simp) (some ⟨g, 0, none⟩) L.length (L.length + 64)).mono ?_; rintro e19 w19 ⟨rfl, b19, hbag, hrow, hk, hbk⟩
          have HBag5 := Lib.hid hbag
          have HRowM := Lib.hid hrow
          have HRow5 := Lib.hid (hk.row HRow4.out fun k h1 h2 => by have := (HRow4.out.lt k h1).1; rcases h2 with h2 | h2; omega; simp [Value.ownBlock] at h2)
          have HRB := Lib.hid (show ∀ k, b18.ownBlock = some k → b19.ownBlock ≠ some k from fun k h1 h2 => by
            rcases hbk with h | ⟨q, h, hq⟩
            · rw [h] at h2; simp [Value.ownBlock] at h2
            · rw [h] at h2; cases h2; have := (HRow4.out.lt _ h1).2; omega)
          have HKB5 := Lib.hid (HKB4.out.trans hk fun k h1 h2 => by rcases h2 with h2 | h2; (have := HGB.out; omega); simp [Value.ownBlock] at h2)
          clear hbag hrow hk hbk HBag4 HKB4 HRow4
          have HR1f := Lib.hid (HKB5.out.row HR1e.out fun _ _ h => h)
          have HR2f := Lib.hid (HKB5.out.row HR2e.out fun _ _ h => h)
          have HR3f := Lib.hid (HKB5.out.row HR3e.out fun _ _ h => h)
          have HWf := Lib.hid (HKB5.out.row HWe.out.short fun _ _ h => h)
          have LT1 := Lib.hid (HR1e.out.lt)
          have LT2 := Lib.hid (HR2e.out.lt)
          have LT3 := Lib.hid (HR3e.out.lt)
          have ORD := Lib.hid (show w.heap.size ≤ w1.heap.size ∧ w1.heap.size ≤ g ∧ g < w2.heap.size ∧ w2.heap.size ≤ w3.heap.size ∧ w3.heap.size ≤ w4.heap.size ∧ w4.heap.size ≤ w5.heap.size ∧ w5.heap.size ≤ w12.heap.size ∧ w12.heap.size ≤ w13.heap.size ∧ w13.heap.size ≤ gb by
            have := S1.out; have := S2.out; have := S3.out; have := S4.out; have := S5.out; have := S6.out; have := S7.out; have := S8.out; have := S9.out; have := Sa.out; have := Sb.out; have := Sc.out; have := Sd.out; have := Se.out; have := HGG.out; have := HGB.out; omega)
          have hB : BgB w19 w.heap.size [.slice o1 s.length c1, .slice o2 s.length c2, .slice o3 s3.length c3] [s.length, s.length, s3.length] (fun i => [xs, u8s s, u8s s3].getD i []) gb b18 := by
            have o := ORD.out
            refine Bgl.of rfl (fun i v n hv hn => ?_) (fun i v k hv hk => ?_) (rising_three (fun x y hx hy => ?_) (fun x y hx hy => ?_) (fun x y hx hy => ?_)).ap HRow5.out (by omega) (HBag5.out.cell 0) HBag5.out.lt
            · match i, hv, hn with
              | 0, hv, hn => cases hv; cases hn; exact ownsRow_mono HR1f.out (by omega)
              | 1, hv, hn => cases hv; cases hn; exact ownsRow_mono HR2f.out (by omega)
              | 2, hv, hn => cases hv; cases hn; exact ownsRow_mono HR3f.out (by omega)
            · rcases blk_three ⟨i, v, hv, hk⟩ with h | h | h
              · have := HL1.out k h; omega
              · have := HL2.out k h; omega
              · have := HL3.out k h; omega
            · have := HL1.out x hx; have := HL2.out y hy; omega
            · have := HL1.out x hx; have := HL3.out y hy; omega
            · have := HL2.out x hx; have := HL3.out y hy; omega
          have hM : BgM w19 w.heap.size [.slice (some ⟨g, 0, none⟩) L.length (L.length + 64)] [L.length] (fun _ => mksC M) gb b19 := by
            have o := ORD.out
            refine Bgl.of rfl (fun i v n hv hn => ?_) (fun i v k hv hk => ?_) (rising_one _).ap HRowM.out (by omega) (HBag5.out.cell 4) HBag5.out.lt
            · match i, hv, hn with
              | 0, hv, hn => cases hv; cases hn; exact ownsRow_mono HWf.out (by omega)
            · have h := blk_one ⟨i, v, hv, hk⟩
              have h' : g = k := by simpa [Value.ownBlock] using h
              omega
          have hN : BgN w19 w.heap.size [] [] (fun _ => []) gb (.slice none 0 0) :=
            Bgl.of rfl (fun i v n hv hn => by simp at hv) (fun i v k hv hk => by simp at hv) rising_nil.ap (World.ownsRow_nil _ _ _ _) (by have := ORD.out; omega) (HBag5.out.cell 8) HBag5.out.lt
          have hbag3 : Bag3 w19 w.heap.size gb [.slice o1 s.length c1, .slice o2 s.length c2, .slice o3 s3.length c3] [s.length, s.length, s3.length] (fun i => [xs, u8s s, u8s s3].getD i []) b18 [.slice (some ⟨g, 0, none⟩) L.length (L.length + 64)] [L.length] (fun _ => mksC M) b19 [] [] (fun _ => []) (.slice none 0 0) := by
            have o := ORD.out
            refine ⟨HBag5.out, hB, hM, hN, fun k hk => ⟨fun hm => ?_, fun hm => ?_⟩, fun k hk => ⟨blk_nil k, by simp [Value.ownBlock]⟩, fun k hk => ⟨fun hm => ?_, fun hm => ?_⟩, fun k hk => ⟨blk_nil k, by simp [Value.ownBlock]⟩, fun k hk => absurd hk (blk_nil k), fun k hk => absurd hk (blk_nil k)⟩
            · have h' : g = k := by simpa [Value.ownBlock] using blk_one hm
              rcases blk_three hk with h | h | h
              · have := HL1.out k h; omega
              · have := HL2.out k h; omega
              · have := HL3.out k h; omega
            · have := (HRowM.out.lt k hm).1
              rcases blk_three hk with h | h | h
              · have := HL1.out k h; omega
              · have := HL2.out k h; omega
              · have := HL3.out k h; omega
            · have h' : g = k := by simpa [Value.ownBlock] using blk_one hk
              rcases blk_three hm with h | h | h
              · have := HL1.out k h; omega
              · have := HL2.out k h; omega
              · have := HL3.out k h; omega
            · have h' : g = k := by simpa [Value.ownBlock] using blk_one hk
              have := (HRow5.out.lt k hm).1
              omega
          have HBG3 := Lib.hid hbag3
          clear hbag3 hB hM hN
          go_wp2_with fail
          refine (Apart_call (by have := HKB5.out.size; have := ORD.out; have := HGB.out; omega) (by simp) (by simp) (by simp) (fun i n hn => ?_) (fun i n hn => ?_) (fun i n hn => by simp at hn) HBG3.out).mono ?_
          · match i, hn with
            | 0, hn => cases hn; omega
            | 1, hn => cases hn; omega
            | 2, hn => cases hn; omega
          · match i, hn with
            | 0, hn => cases hn; have := HLEN.out; omega
          rintro e20 w20 ⟨rfl, hk20, _⟩
          have HK20 := Lib.hid hk20
          clear hk20
          go_wp2_with fail
          go_ret
          refine ⟨rfl, (HBe.out.trans (HKB5.out.below (k := w.heap.size) HBe.out.size fun _ _ h => h)).trans (HK20.out.below (k := w.heap.size) (by have := HKB5.out.size; have := HBe.out.size; omega) fun k h1 h2 => ?_)⟩
          have o := ORD.out
          rcases h2 with h2 | h2 | h2
          · rcases blk_three h2 with h | h | h
            · have := HL1.out k h; omega
            · have := HL2.out k h; omega
            · have := HL3.out k h; omega
          · have h' : g = k := by simpa [Value.ownBlock] using blk_one h2
            omega
          · exact blk_nil k h2
end Go.Proofs.YtbdjcmhfcdamiaaDoor
