/- SyntaxMakes' walk. -/
import Derived.Test.YtbdjcmhfcdamiaaTh
import Derived.Test.YtbdjcmhfcdamiaaPh
namespace Go.Proofs.Ytbdjcmhfcdamiaa
open Go.RowKit Go.ChangeShapes Go.WideShapes Go.Deep

set_option maxRecDepth 100000 in
set_option maxHeartbeats 1600000 in
theorem makes_long (ere : Bool) {L : List Mk} {oa : Option Addr} {cap : Nat} {w : World} (hl : 2147483647 < L.length) :
    Calls Try.prog 5 #[.bool ere, .slice oa L.length cap] w fun e w' => e = .returned (.bool true) ∧ Below w.heap.size w w' := by
  have h1 : decide ((2147483647 : Int) < (L.length : Int)) = true := decide_eq_true (by omega)
  clear hl
  go_enter Try.func5, Try.ntmps5
  go_wp2_with fail
  refine (long_call _).mono ?_; rintro e w1 ⟨rfl, rfl⟩
  rw [h1]
  go_wp2_with fail
  go_ret
  exact ⟨rfl, Below.refl _ _⟩
set_option maxRecDepth 100000 in
set_option maxHeartbeats 1600000 in
theorem makes_walk (ere : Bool) {L : List Mk} {oa : Option Addr} {cap : Nat} {w : World} (hv : MkV w oa cap L) (hl : L.length ≤ 2147483647) :
    Calls Try.prog 5 #[.bool ere, .slice oa L.length cap] w fun e w' => e = .returned (.bool true) ∧ Below w.heap.size w w' := by
  have h1 : Hid (decide ((2147483647 : Int) < (L.length : Int)) = false) := decide_eq_false (by omega)
  have HV := Lib.hid hv
  have HL := Lib.hid hl
  clear hv hl
  go_enter Try.func5, Try.ntmps5
  go_wp2_with fail
  refine (long_call _).mono ?_; rintro e w1 ⟨rfl, rfl⟩
  rw [h1.out]
  go_wp2_with fail
  refine (copyMarks_call HV.out HL.out).mono ?_; rintro e w1 ⟨⟨v1, rfl, hm1⟩, hb1⟩
  obtain ⟨o1, c1, rfl, hv1⟩ := hm1.toV HV.out.u
  have HB1 := Lib.hid hb1
  have HP := Lib.hid (parse_call (ere := ere) (cap := c1) (w := w1) hv1.arg)
  clear hm1 hb1 hv1
  go_wp2_with fail
  refine HP.out.mono ?_; rintro e w2 ⟨hr, hb2⟩
  have HB2 := Lib.hid (HB1.out.trans (hb2.mono HB1.out.size))
  clear hb2 HP
  cases hp : parseL ere L with
  | error q =>
    obtain ⟨e0, i0⟩ := q
    rw [hp] at hr
    simp only [ParR] at hr
    subst hr
    have hbad := parseL_bad HV.out.u hp
    have hne : ((e0 : Int) != 0) = true := by rw [bne_iff_ne]; have := hbad.1; omega
    have hi : decide ((i0 : Int) ≤ (L.length : Int)) = true := decide_eq_true (by have := hbad.2.1; omega)
    have hi0 : decide ((0 : Int) ≤ (i0 : Int)) = true := decide_eq_true (by omega)
    have hi1 : decide (i0 ≤ L.length) = true := decide_eq_true hbad.2.1
    have hi2 := hbad.2.1
    clear hp hbad
    go_wp2_with fail
    refine works_call.mono ?_; rintro e w3 ⟨rfl, hb3⟩
    have HB3 := Lib.hid (HB2.out.trans (hb3.mono HB2.out.size))
    clear hb3
    go_wp2_with fail
    go_ret
    exact ⟨rfl, HB3.out⟩
  | ok re =>
    rw [hp] at hr
    obtain ⟨v2, rfl, hn2⟩ := hr
    obtain ⟨hfl, hfk, hfo⟩ := parseL_fit HV.out.u hp
    have HFO := Lib.hid hfo
    obtain ⟨hs, hpos, hw1, hw2, hb0, hbe1, hbe2, href⟩ := parseL_says hp
    have hok := parseL_ok hp
    obtain ⟨o2, c2, rfl, hv2⟩ := hn2.toV (by omega) hfk
    have HV2 := Lib.hid hv2
    have HS := Lib.hid hs
    have HBE0 := Lib.hid hb0
    have HBE1 := Lib.hid hbe1
    have HBE2 := Lib.hid hbe2
    have HR := Lib.hid href
    have HK := Lib.hid hok
    obtain ⟨nb, no, hoa, hnd⟩ := hv2.at_ hpos
    subst hoa
    have HND := Lib.hid hnd
    clear hn2 hv2 hs hb0 hbe1 hbe2 href hok hnd hp hfk hfo
    go_wp2_with fail
    go_loopg [8, 9, 10] re.length (fun n gv rv dv wr => ∃ d : Nat, dv = .int .i64 (d : Nat) ∧ n = re.length - d ∧ d ≤ re.length ∧ gv = .int .i64 (cnt (re.take d) : Nat) ∧ rv = .bool ((re.take d).any (·.op == 8)) ∧ Below w.heap.size w wr ∧ Below w2.heap.size w2 wr)
    case atStart => exact ⟨0, rfl, by omega, by omega, rfl, rfl, HB2.out, Below.refl _ _⟩
    case round =>
      obtain ⟨d, rfl, hg, hd, rfl, rfl, hb, hb2⟩ := hrel
      have HG := Lib.hid hg
      have HBB := Lib.hid hb
      have HBB2 := Lib.hid hb2
      clear hg hb hb2
      by_cases hlt : d < re.length
      · have hlt' : (d : Int) < (re.length : Int) := by omega
        obtain ⟨x, hx⟩ : ∃ x, re[d]? = some x := ⟨_, List.getElem?_eq_getElem hlt⟩
        have hnr := HND.out.below HBB2.out
        obtain ⟨n0, _⟩ := hnr.cells hx
        have nbl := hnr.lt
        have HC := Lib.hid (cnt_take hx)
        obtain ⟨ho1, ho2, _⟩ := HFO.out x (List.mem_of_getElem? hx)
        have HA := Lib.hid (any_take_succ (fun n : Nd => n.op == 8) hx)
        have hcl : cnt (re.take d) ≤ d := by unfold cnt; exact Nat.le_trans (List.length_filter_le _ _) (by simp; omega)
        clear hx hnr
        generalize cnt (re.take d) = c at *
        generalize x.op = op at *
        cases hr8 : (re.take d).any (·.op == 8) with
        | true =>
          rw [hr8] at HA
          by_cases h7 : op = 7
          · subst h7
            clear hr8
            go_wp2_with fail
            go_roundg (re.length - (d + 1))
            case measure => have := HG.out; omega
            case rel => exact ⟨d + 1, by go_num, rfl, by omega, by rw [HC.out]; go_num, by rw [HA.out]; rfl, HBB.out, HBB2.out⟩
          · have h7' : (op == 7) = false := by simpa using h7
            have HC2 := Lib.hid (show cnt (re.take (d + 1)) = c from by rw [HC.out, if_neg h7]; rfl)
            clear hr8 HC
            go_wp2_with fail
            go_roundg (re.length - (d + 1))
            case measure => have := HG.out; omega
            case rel => exact ⟨d + 1, by go_num, rfl, by omega, by rw [HC2.out], by rw [HA.out]; rfl, HBB.out, HBB2.out⟩
        | false =>
          rw [hr8] at HA
          by_cases h7 : op = 7
          · subst h7
            clear hr8
            go_wp2_with fail
            go_roundg (re.length - (d + 1))
            case measure => have := HG.out; omega
            case rel => exact ⟨d + 1, by go_num, rfl, by omega, by rw [HC.out]; go_num, by rw [HA.out]; rfl, HBB.out, HBB2.out⟩
          · have h7' : (op == 7) = false := by simpa using h7
            have HC2 := Lib.hid (show cnt (re.take (d + 1)) = c from by rw [HC.out, if_neg h7]; rfl)
            clear hr8 HC
            go_wp2_with fail
            go_roundg (re.length - (d + 1))
            case measure => have := HG.out; omega
            case rel => exact ⟨d + 1, by go_num, rfl, by omega, by rw [HC2.out], by rw [HA.out]; rfl, HBB.out, HBB2.out⟩
      · have hlt' : ¬ (d : Int) < (re.length : Int) := by omega
        have hde : d = re.length := by omega
        subst hde
        rw [List.take_length]
        have VR := Lib.hid (HV2.out.below HBB2.out)
        clear HND HV2 HG hd hlt
        go_wp2_with fail
        refine (weight_call VR.out).mono ?_; rintro e w3 ⟨rfl, hb3⟩
        have V3 := Lib.hid (VR.out.below hb3)
        have B3 := Lib.hid (HBB.out.trans (hb3.mono HBB.out.size))
        clear hb3 VR
        go_wp2_with fail
        refine (shaped_call V3.out).mono ?_; rintro e w4 ⟨rfl, hb4⟩
        rw [HS.out]
        have V4 := Lib.hid (V3.out.below hb4)
        have B4 := Lib.hid (B3.out.trans (hb4.mono B3.out.size))
        clear hb4 V3
        go_wp2_with fail
        refine (groups_call V4.out).mono ?_; rintro e w5 ⟨rfl, hb5⟩
        rw [groupsN_read HS.out]
        have V5 := Lib.hid (V4.out.below hb5)
        have B5 := Lib.hid (B4.out.trans (hb5.mono B4.out.size))
        clear hb5 V4
        go_wp2_with fail
        refine (refs_call V5.out).mono ?_; rintro e w6 ⟨rfl, hb6⟩
        rw [refsN_read HS.out]
        have V6 := Lib.hid (V5.out.below hb6)
        have B6 := Lib.hid (B5.out.trans (hb6.mono B5.out.size))
        clear hb6 V5
        have hw1' : decide (weightN re < 1) = false := decide_eq_false (by omega)
        have hw2' : decide (16384 < weightN re) = false := decide_eq_false (by omega)
        have hl0 : ((L.length : Int) == 0) = false := beq_eq_false_iff_ne.2 (by have := HK.out.1; omega)
        have hl1 : decide (4096 < (L.length : Int)) = false := decide_eq_false (by have := HK.out.2.1; omega)
        have HRR := HR.out
        generalize re.any (fun n => n.op == 8) = rf at HRR ⊢
        cases ere with
        | true =>
          have hrf := HRR rfl
          subst hrf
          clear HRR
          go_wp2_with fail
          refine (behind_call 0 V6.out).mono ?_; rintro e w7 ⟨rfl, hb7⟩
          rw [HBE0.out]
          have V7 := Lib.hid (V6.out.below hb7)
          have B7 := Lib.hid (B6.out.trans (hb7.mono B6.out.size))
          clear hb7 V6
          go_wp2_with fail
          refine (behind_call ((re.length : Int) - 1) V7.out).mono ?_; rintro e w8 ⟨rfl, hb8⟩
          rw [HBE1.out]
          have V8 := Lib.hid (V7.out.below hb8)
          have B8 := Lib.hid (B7.out.trans (hb8.mono B7.out.size))
          clear hb8 V7
          go_wp2_with fail
          refine (behind_call (re.length : Int) V8.out).mono ?_; rintro e w9 ⟨rfl, hb9⟩
          rw [HBE2.out]
          have B9 := Lib.hid (B8.out.trans (hb9.mono B8.out.size))
          clear hb9 V8
          go_wp2_with fail
          refine works_call.mono ?_; rintro e wa ⟨rfl, hba⟩
          have Ba := Lib.hid (B9.out.trans (hba.mono B9.out.size))
          clear hba
          go_wp2_with fail
          go_ret
          exact ⟨rfl, Ba.out⟩
        | false =>
          clear HRR
          go_wp2_with fail
          refine (behind_call 0 V6.out).mono ?_; rintro e w7 ⟨rfl, hb7⟩
          rw [HBE0.out]
          have V7 := Lib.hid (V6.out.below hb7)
          have B7 := Lib.hid (B6.out.trans (hb7.mono B6.out.size))
          clear hb7 V6
          go_wp2_with fail
          refine (behind_call ((re.length : Int) - 1) V7.out).mono ?_; rintro e w8 ⟨rfl, hb8⟩
          rw [HBE1.out]
          have V8 := Lib.hid (V7.out.below hb8)
          have B8 := Lib.hid (B7.out.trans (hb8.mono B7.out.size))
          clear hb8 V7
          go_wp2_with fail
          refine (behind_call (re.length : Int) V8.out).mono ?_; rintro e w9 ⟨rfl, hb9⟩
          rw [HBE2.out]
          have B9 := Lib.hid (B8.out.trans (hb9.mono B8.out.size))
          clear hb9 V8
          go_wp2_with fail
          refine works_call.mono ?_; rintro e wa ⟨rfl, hba⟩
          have Ba := Lib.hid (B9.out.trans (hba.mono B9.out.size))
          clear hba
          go_wp2_with fail
          go_ret
          exact ⟨rfl, Ba.out⟩
theorem makes_all (ere : Bool) {L : List Mk} {oa : Option Addr} {cap : Nat} {w : World} (hv : MkV w oa cap L) (_ : L.length * 2 ≤ 140737488351232) :
    Calls Try.prog 5 #[.bool ere, .slice oa L.length cap] w fun e w' => e = .returned (.bool true) ∧ Below w.heap.size w w' := by
  by_cases h : 2147483647 < L.length
  · exact makes_long ere h
  · exact makes_walk ere hv (by omega)
end Go.Proofs.Ytbdjcmhfcdamiaa
