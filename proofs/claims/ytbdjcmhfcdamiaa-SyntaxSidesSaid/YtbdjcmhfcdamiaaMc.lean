/- SyntaxFirst's walk. -/
import Derived.Test.YtbdjcmhfcdamiaaTh
import Derived.Test.YtbdjcmhfcdamiaaPf
namespace Go.Proofs.Ytbdjcmhfcdamiaa
open Go.RowKit Go.ChangeShapes Go.WideShapes Go.Deep

theorem u_append {a b : List Mk} (ha : ∀ i, i < a.length → (markAt a i).b < 256) (hb : ∀ i, i < b.length → (markAt b i).b < 256) : ∀ i, i < (a ++ b).length → (markAt (a ++ b) i).b < 256 := fun i hi => by
  rw [List.length_append] at hi
  unfold markAt at ha hb ⊢
  by_cases h : i < a.length
  · rw [List.getD_eq_getElem?_getD, List.getElem?_append_left h, ← List.getD_eq_getElem?_getD]; exact ha i h
  · rw [List.getD_eq_getElem?_getD, List.getElem?_append_right (by omega), ← List.getD_eq_getElem?_getD]; exact hb _ (by omega)
set_option maxRecDepth 100000 in
set_option maxHeartbeats 1600000 in
theorem first_long (ere : Bool) {L R : List Mk} {oa ob : Option Addr} {cap cap2 : Nat} {w : World} (hl : 2147483647 < L.length + R.length) (z1 : L.length * 2 ≤ 140737488351232) (z2 : R.length * 2 ≤ 140737488351232) :
    Calls Try.prog 9 #[.bool ere, .slice oa L.length cap, .slice ob R.length cap2] w fun e w' => e = .returned (.bool true) ∧ Below w.heap.size w w' := by
  have h1 : decide ((2147483647 : Int) < (L.length : Int) + (R.length : Int)) = true := decide_eq_true (by omega)
  clear hl
  go_enter Try.func9, Try.ntmps9
  go_wp2_with fail
  refine (long_call _).mono ?_; rintro e w1 ⟨rfl, rfl⟩
  rw [h1]
  go_wp2_with fail
  go_ret
  exact ⟨rfl, Below.refl _ _⟩
set_option maxRecDepth 100000 in
set_option maxHeartbeats 1600000 in
theorem first_walk (ere : Bool) {L R : List Mk} {oa ob : Option Addr} {cap cap2 : Nat} {w : World} (hv : MkV w oa cap L) (hv2 : MkV w ob cap2 R) (hl : L.length + R.length ≤ 2147483647) (z1 : L.length * 2 ≤ 140737488351232) (z2 : R.length * 2 ≤ 140737488351232) :
    Calls Try.prog 9 #[.bool ere, .slice oa L.length cap, .slice ob R.length cap2] w fun e w' => e = .returned (.bool true) ∧ Below w.heap.size w w' := by
  have h1 : Hid (decide ((2147483647 : Int) < (L.length : Int) + (R.length : Int)) = false) := decide_eq_false (by omega)
  have HV := Lib.hid hv
  have HR := Lib.hid hv2
  have HL := Lib.hid hl
  clear hv hv2 hl
  go_enter Try.func9, Try.ntmps9
  go_wp2_with fail
  refine (long_call _).mono ?_; rintro e w1 ⟨rfl, rfl⟩
  rw [h1.out]
  go_wp2_with fail
  refine (copyMarks_call HV.out (by have := HL.out; omega)).mono ?_; rintro e w1 ⟨⟨v1, rfl, hm1⟩, hb1⟩
  obtain ⟨o1, c1, rfl, hv1⟩ := hm1.toV HV.out.u
  have HB1 := Lib.hid hb1
  have HP := Lib.hid (parse_call (ere := ere) (cap := c1) (w := w1) hv1.arg)
  clear hm1 hb1 hv1
  go_wp2_with fail
  refine HP.out.mono ?_; rintro e w2 ⟨hr, hb2⟩
  have HB2 := Lib.hid (HB1.out.trans (hb2.mono HB1.out.size))
  clear hb2 HP
  cases hp : parseL ere L with
  | ok re =>
    rw [hp] at hr
    obtain ⟨v2, rfl, hn2⟩ := hr
    clear hp hn2
    go_wp2_with fail
    refine works_call.mono ?_; rintro e w3 ⟨rfl, hb3⟩
    have HB3 := Lib.hid (HB2.out.trans (hb3.mono HB2.out.size))
    clear hb3
    go_wp2_with fail
    go_ret
    exact ⟨rfl, HB3.out⟩
  | error q =>
    obtain ⟨e0, i0⟩ := q
    rw [hp] at hr
    simp only [ParR] at hr
    subst hr
    have hbad := parseL_bad HV.out.u hp
    have HPL := Lib.hid hp
    clear hp
    by_cases he : E5 e0
    · have hil := hbad.2.2 he
      have HE := Lib.hid he
      clear hbad
      go_upto_region 4 with fail
      go_cut [10] (fun v wd => v = .bool true ∧ w2 = wd)
      case first =>
        have he5 := HE.out
        clear HE
        unfold E5 at he5
        rcases he5 with rfl | rfl | rfl | rfl | rfl
        all_goals
          clear he HPL
          go_wp2_with fail
          go_meet
          exact ⟨rfl, rfl⟩
      case rest =>
      obtain ⟨rfl, rfl⟩ := hcut
      have hi1 : ¬ (L.length : Int) ≤ (i0 : Int) := by omega
      clear he
      by_cases g1 : L.length < i0 + 2
      · have g1' : decide ((L.length : Int) < (i0 : Int) + 2) = true := decide_eq_true (by omega)
        go_wp2_with fail
        refine works_call.mono ?_; rintro e w3 ⟨rfl, hb3⟩
        have HB3 := Lib.hid (HB2.out.trans (hb3.mono HB2.out.size))
        clear hb3
        go_wp2_with fail
        go_ret
        exact ⟨rfl, HB3.out⟩
      have g1' : decide ((L.length : Int) < (i0 : Int) + 2) = false := decide_eq_false (by omega)
      by_cases g2 : 4096 < i0 + 2 + R.length
      · have g2' : decide ((4096 : Int) < (i0 : Int) + 2 + (R.length : Int)) = true := decide_eq_true (by omega)
        go_wp2_with fail
        refine works_call.mono ?_; rintro e w3 ⟨rfl, hb3⟩
        have HB3 := Lib.hid (HB2.out.trans (hb3.mono HB2.out.size))
        clear hb3
        go_wp2_with fail
        go_ret
        exact ⟨rfl, HB3.out⟩
      have g2' : decide ((4096 : Int) < (i0 : Int) + 2 + (R.length : Int)) = false := decide_eq_false (by omega)
      have hcp := HV.out.cp
      have hcp2 : (i0 : Int) + 2 ≤ (cap : Int) := by omega
      have hlen : (L.take (i0 + 2)).length = i0 + 2 := by rw [List.length_take]; omega
      obtain ⟨mb, mo, hoa, _, _⟩ := HV.out.at_ (by omega)
      have HT := Lib.hid (HV.out.take (n := i0 + 2) (by omega))
      have HF := Lib.hid (parseL_first HV.out.u HE.out HPL.out R (by omega) (by omega))
      have HU := Lib.hid (u_append (HT.out.u) (HR.out.u))
      have HS1 := Lib.hid (show ∀ W, Below w.heap.size w W → Src W (.slice oa (i0 + 2) cap) (L.take (i0 + 2)).length (mksC (L.take (i0 + 2))) from fun W hb => by
        have := (HT.out.below hb).src
        rwa [hlen] at this ⊢)
      have HLEN := Lib.hid hlen
      subst hoa
      clear hlen hi1
      go_wp2_with (at_builtin; refine wpList_mks rfl _ _ rfl w.heap.size rfl (Mks.nil _ _) (ys := L.take (i0 + 2)) rfl (HS1.out _ HB2.out) (by rw [HLEN.out, List.length_nil]; have := HL.out; omega) HB2.out.size ?_)
      intro v3 w3 hm3 hgr3 hblk3
      have HM3 := Lib.hid (show Mks w3 w.heap.size v3 (L.take (i0 + 2)) from hm3)
      have HB3 := Lib.hid (HB2.out.grown hgr3 HB2.out.size (fun k hk => by cases hk))
      have HR3 := Lib.hid ((HR.out.below HB3.out).src)
      clear hm3 hgr3 hblk3
      go_wp2_with (at_builtin; refine wpList_mks rfl _ _ rfl w.heap.size rfl HM3.out (ys := R) rfl HR3.out (by rw [HLEN.out]; have := HL.out; omega) HB3.out.size ?_)
      intro v4 w4 hm4 hgr4 hblk4
      have HB4 := Lib.hid (HB3.out.grown hgr4 HB3.out.size (fun k hk => (HM3.out.lt k hk).1))
      have HM4 := Lib.hid (show Mks w4 w.heap.size v4 (L.take (i0 + 2) ++ R) from hm4)
      generalize L.take (i0 + 2) ++ R = M at HM4 HU HF
      obtain ⟨o4, c4, rfl, hv4⟩ := HM4.out.toV HU.out
      have HP := Lib.hid (parse_call (ere := ere) (cap := c4) (w := w4) hv4.arg)
      rw [HF.out] at HP
      clear hm4 hgr4 hblk4 hv4 HM4
      go_wp2_with fail
      refine HP.out.mono ?_; rintro e w5 ⟨hr, hb5⟩
      simp only [ParR] at hr
      subst hr
      have HB5 := Lib.hid (HB4.out.trans (hb5.mono HB4.out.size))
      clear hb5 HP
      go_wp2_with fail
      refine works_call.mono ?_; rintro e w6 ⟨rfl, hb6⟩
      have HB6 := Lib.hid (HB5.out.trans (hb6.mono HB5.out.size))
      clear hb6
      go_wp2_with fail
      go_ret
      exact ⟨rfl, HB6.out⟩
    · have f40 : ((e0 : Int) == 40) = false := beq_eq_false_iff_ne.2 (fun h => he (by unfold E5; omega))
      have f42 : ((e0 : Int) == 42) = false := beq_eq_false_iff_ne.2 (fun h => he (by unfold E5; omega))
      have f44 : ((e0 : Int) == 44) = false := beq_eq_false_iff_ne.2 (fun h => he (by unfold E5; omega))
      have f46 : ((e0 : Int) == 46) = false := beq_eq_false_iff_ne.2 (fun h => he (by unfold E5; omega))
      have f47 : ((e0 : Int) == 47) = false := beq_eq_false_iff_ne.2 (fun h => he (by unfold E5; omega))
      clear he hbad
      go_wp2_with fail
      refine works_call.mono ?_; rintro e w3 ⟨rfl, hb3⟩
      have HB3 := Lib.hid (HB2.out.trans (hb3.mono HB2.out.size))
      clear hb3
      go_wp2_with fail
      go_ret
      exact ⟨rfl, HB3.out⟩
theorem first_all (ere : Bool) {L R : List Mk} {oa ob : Option Addr} {cap cap2 : Nat} {w : World} (hv : MkV w oa cap L) (z1 : L.length * 2 ≤ 140737488351232) (hv2 : MkV w ob cap2 R) (z2 : R.length * 2 ≤ 140737488351232) :
    Calls Try.prog 9 #[.bool ere, .slice oa L.length cap, .slice ob R.length cap2] w fun e w' => e = .returned (.bool true) ∧ Below w.heap.size w w' := by
  by_cases h : 2147483647 < L.length + R.length
  · exact first_long ere h z1 z2
  · exact first_walk ere hv hv2 (by omega) z1 z2
end Go.Proofs.Ytbdjcmhfcdamiaa
