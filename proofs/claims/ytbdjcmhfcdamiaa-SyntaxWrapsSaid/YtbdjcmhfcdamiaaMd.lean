/- SyntaxWraps' walk. -/
import Derived.Test.YtbdjcmhfcdamiaaTj
import Derived.Test.YtbdjcmhfcdamiaaMc
namespace Go.Proofs.Ytbdjcmhfcdamiaa
open Go.RowKit

def pOpen2 : ByteArray := ⟨#[92, 40]⟩
def pShut2 : ByteArray := ⟨#[92, 41]⟩
def pOpen1 : ByteArray := ⟨#[40]⟩
def pShut1 : ByteArray := ⟨#[41]⟩
theorem text_open (ere : Bool) : textM (if ere then pOpen1 else pOpen2) = signM ere 40 := by cases ere <;> rfl
theorem text_shut (ere : Bool) : textM (if ere then pShut1 else pShut2) = signM ere 41 := by cases ere <;> rfl
theorem signM_u (ere : Bool) (c : Nat) (h : c < 256) : ∀ i, i < (signM ere c).length → (markAt (signM ere c) i).b < 256 := fun i hi => by
  have hm := markAt_mem hi
  generalize markAt (signM ere c) i = m at hm ⊢
  cases ere with
  | true =>
    have : m = ⟨c, false⟩ := by simpa [signM, signB] using hm
    rw [this]; exact h
  | false =>
    have : m = ⟨92, false⟩ ∨ m = ⟨c, false⟩ := by simpa [signM, signB] using hm
    rcases this with h1 | h1 <;> rw [h1]
    · show 92 < 256; decide
    · exact h
theorem wrapN_kids {re : List Nd} (hk : ∀ x ∈ re, x.kids ≤ re.length) : ∀ x ∈ wrapN re, x.kids ≤ (wrapN re).length := fun x hx => by
  unfold wrapN at hx ⊢
  rw [List.length_cons, List.length_map]
  rcases List.mem_cons.1 hx with rfl | hx
  · show (1 : Int) ≤ _
    omega
  · obtain ⟨y, hy, rfl⟩ := List.mem_map.1 hx
    rw [sh_kids]
    have := hk y hy
    omega
set_option maxRecDepth 100000 in
set_option maxHeartbeats 1600000 in
theorem wraps_long (ere : Bool) {L : List Mk} {oa : Option Addr} {cap : Nat} {w : World} (hl : 2147483647 < L.length) :
    Calls Try.prog 6 #[.bool ere, .slice oa L.length cap] w fun e w' => e = .returned (.bool true) ∧ Below w.heap.size w w' := by
  have h1 : decide ((2147483647 : Int) < (L.length : Int)) = true := decide_eq_true (by omega)
  clear hl
  go_enter Try.func6, Try.ntmps6
  go_wp2_with fail
  refine (long_call _).mono ?_; rintro e w1 ⟨rfl, rfl⟩
  rw [h1]
  go_wp2_with fail
  go_ret
  exact ⟨rfl, Below.refl _ _⟩
set_option maxRecDepth 100000 in
set_option maxHeartbeats 3200000 in
theorem wraps_walk (ere : Bool) {L : List Mk} {oa : Option Addr} {cap : Nat} {w : World} (hv : MkV w oa cap L) (hl : L.length ≤ 2147483647) :
    Calls Try.prog 6 #[.bool ere, .slice oa L.length cap] w fun e w' => e = .returned (.bool true) ∧ Below w.heap.size w w' := by
  have h1 : Hid (decide ((2147483647 : Int) < (L.length : Int)) = false) := decide_eq_false (by omega)
  have HV := Lib.hid hv
  have HL := Lib.hid hl
  clear hv hl
  go_enter Try.func6, Try.ntmps6
  go_wp2_with fail
  refine (long_call _).mono ?_; rintro e w1 ⟨rfl, rfl⟩
  rw [h1.out]
  go_wp2_with fail
  refine (copyMarks_call HV.out HL.out).mono ?_; rintro e w1 ⟨⟨v1, rfl, hm1⟩, hb1⟩
  obtain ⟨o1, c1, rfl, hv1⟩ := hm1.toV HV.out.u
  have HB1 := Lib.hid hb1
  have HP := Lib.hid (parse_call (ere := ere) (cap := c1) (w := w1) hv1.arg)
  clear hm1 hb1 hv1
  go_wp2_with fail
  refine HP.out.mono ?_; rintro e w2 ⟨hr, hb2⟩
  have HB2 := Lib.hid (HB1.out.trans (hb2.mono HB1.out.size))
  clear hb2 HP
  cases hp : parseL ere L with
  | error q =>
    obtain ⟨e0, i0⟩ := q
    rw [hp] at hr
    simp only [ParR] at hr
    subst hr
    have hbad := parseL_bad HV.out.u hp
    have hne : ((e0 : Int) != 0) = true := by rw [bne_iff_ne]; have := hbad.1; omega
    clear hp hbad
    go_wp2_with fail
    refine works_call.mono ?_; rintro e w3 ⟨rfl, hb3⟩
    have HB3 := Lib.hid (HB2.out.trans (hb3.mono HB2.out.size))
    clear hb3
    go_wp2_with fail
    go_ret
    exact ⟨rfl, HB3.out⟩
  | ok re =>
    rw [hp] at hr
    obtain ⟨v2, rfl, hn2⟩ := hr
    obtain ⟨hfl, hfk, hfo⟩ := parseL_fit HV.out.u hp
    obtain ⟨hs, hpos, _⟩ := parseL_says hp
    obtain ⟨o2, c2, rfl, hv2⟩ := hn2.toV (by omega) hfk
    have HV2 := Lib.hid hv2
    have HS := Lib.hid hs
    have HK := Lib.hid hfk
    have HO := Lib.hid hfo
    have HPL := Lib.hid hp
    clear hn2 hv2 hs hp hfk hfo
    go_wp2_with fail
    refine (refs_call HV2.out).mono ?_; rintro e w3 ⟨rfl, hb3⟩
    rw [refsN_read HS.out]
    have V3 := Lib.hid (HV2.out.below hb3)
    have HB3 := Lib.hid (HB2.out.trans (hb3.mono HB2.out.size))
    clear hb3 HV2
    cases hrf : re.any (fun n => n.op == 8) with
    | true =>
      clear hrf
      go_wp2_with fail
      refine works_call.mono ?_; rintro e w4 ⟨rfl, hb4⟩
      have HB4 := Lib.hid (HB3.out.trans (hb4.mono HB3.out.size))
      clear hb4
      go_wp2_with fail
      go_ret
      exact ⟨rfl, HB4.out⟩
    | false =>
      have hnr : NR 1 re := fun _ x hx h8 => by
        rw [List.any_eq_false] at hrf
        exact hrf x hx (by simpa using h8)
      have HW := Lib.hid (parseL_wrap HV.out.u HPL.out hnr)
      clear hrf hnr HB1 HB2
      go_wp2_with fail
      refine (marks_call pOpen2 (by decide)).mono ?_; rintro e w4 ⟨⟨v4, rfl, hm4⟩, hb4⟩
      have HM4 := Lib.hid hm4
      have B4 := Lib.hid hb4
      clear hm4 hb4
      go_wp2_with fail
      refine (marks_call pShut2 (by decide)).mono ?_; rintro e w5 ⟨⟨v5, rfl, hm5⟩, hb5⟩
      have HM5 := Lib.hid hm5
      have HM45 := Lib.hid (HM4.out.below hb5)
      have B5 := Lib.hid (B4.out.trans (hb5.mono B4.out.size))
      have H45 := Lib.hid (show ∀ g, v4.ownBlock = some g → v5.ownBlock ≠ some g from fun g hg e => by have := (HM4.out.lt g hg).2; have := (hm5.lt g e).1; omega)
      clear hm5 hb5
      go_upto_if 34 with fail
      go_cut [8, 9] (fun a b wd => Mks wd w3.heap.size a (signM ere 40) ∧ Mks wd w3.heap.size b (signM ere 41) ∧ (∀ g, a.ownBlock = some g → b.ownBlock ≠ some g) ∧ Below w3.heap.size w3 wd)
      case first =>
        cases ere with
        | true =>
          go_wp2_with fail
          refine (marks_call pOpen1 (by decide)).mono ?_; rintro e w6 ⟨⟨v6, rfl, hm6⟩, hb6⟩
          have HM6 := Lib.hid hm6
          have B6 := Lib.hid (B5.out.trans (hb6.mono B5.out.size))
          clear hm6 hb6
          go_wp2_with fail
          refine (marks_call pShut1 (by decide)).mono ?_; rintro e w7 ⟨⟨v7, rfl, hm7⟩, hb7⟩
          have HM7 := Lib.hid hm7
          have HM67 := Lib.hid (HM6.out.below hb7)
          have B7 := Lib.hid (B6.out.trans (hb7.mono B6.out.size))
          clear hm7 hb7
          go_wp2_with fail
          go_meet
          exact ⟨ownsRow_mono HM67.out B5.out.size, ownsRow_mono HM7.out B6.out.size, fun g hg e => by have := (HM6.out.lt g hg).2; have := (HM7.out.lt g e).1; omega, B7.out⟩
        | false =>
          go_wp2_with fail
          go_meet
          exact ⟨HM45.out, ownsRow_mono HM5.out B4.out.size, H45.out, B5.out⟩
      case rest =>
      obtain ⟨ha, hb, hab, hbe⟩ := hcut
      have HA := Lib.hid ha
      have HBm := Lib.hid hb
      have HAB := Lib.hid hab
      have BC := Lib.hid hbe
      have HSL := Lib.hid (HV.out.below (HB3.out.trans (hbe.mono HB3.out.size))).src
      have hcs := hbe.size
      clear ha hb hab hbe HM4 HM5 HM45 H45 B5 B4
      go_wp2_with (at_builtin; refine wpList_mks rfl _ _ rfl w3.heap.size rfl HA.out (ys := L) rfl HSL.out (by rw [signM_length]; have := HL.out; have := wideB_le ere; omega) BC.out.size ?_)
      intro v6 w6 hm6 hgr6 hblk6
      have hcs6 := hgr6.size
      have HM6 := Lib.hid (show Mks w6 w3.heap.size v6 (signM ere 40 ++ L) from hm6)
      have B6 := Lib.hid (BC.out.grown hgr6 BC.out.size (fun k hk => (HA.out.lt k hk).1))
      have HBm6 := Lib.hid (show Mks w6 w3.heap.size u9 (signM ere 41) from HBm.out.block fun g hg => hgr6.block g (HBm.out.lt g hg).2 (fun e => HAB.out g e.symm hg))
      clear hm6 hgr6 hblk6 HA HBm HAB HSL BC
      go_wp2_with (at_builtin; refine wpList_mks rfl _ _ rfl w3.heap.size rfl HM6.out (ys := signM ere 41) rfl (Src.own HBm6.out) (by rw [List.length_append, signM_length, signM_length]; have := HL.out; have := wideB_le ere; omega) B6.out.size ?_)
      intro v7 w7 hm7 hgr7 hblk7
      have hcs7 := hgr7.size
      have HM7 := Lib.hid (show Mks w7 w3.heap.size v7 (wrapM ere L) by rw [wrapM, List.append_assoc]; exact hm7)
      have B7 := Lib.hid (B6.out.grown hgr7 B6.out.size (fun k hk => (HM6.out.lt k hk).1))
      clear hm7 hgr7 hblk7 HM6 HBm6 B6
      have B8 := Lib.hid (B7.out.alloc B7.out.size (.cells #[.int .i8 7, .int .u64 0, .int .u64 0, .int .u64 0, .int .u64 0, .int .i64 1, .int .i64 0, .int .i64 0, .int .i64 1] 33))
      have HG8 := Lib.hid (show Nds (w7.alloc (.cells #[.int .i8 7, .int .u64 0, .int .u64 0, .int .u64 0, .int .u64 0, .int .i64 1, .int .i64 0, .int .i64 0, .int .i64 1] 33)) w7.heap.size (.slice (some ⟨w7.heap.size, 0, none⟩) 1 1) [groupN 1] from Nds.lit w7 w7.heap.size (groupN 1) (Nat.le_refl _))
      have HM8 := Lib.hid (HM7.out.below ((Below.refl _ _).alloc (Nat.le_refl _) (.cells #[.int .i8 7, .int .u64 0, .int .u64 0, .int .u64 0, .int .u64 0, .int .i64 1, .int .i64 0, .int .i64 0, .int .i64 1] 33)))
      obtain ⟨nb, no, hoa, hnd⟩ := (V3.out.below B8.out).at_ hpos
      have HND := Lib.hid hnd
      have h7 := Lib.hid (fun g hg => (HM7.out.lt g hg).2)
      clear hnd HM7 B7
      subst hoa
      go_wp2_with fail
      refine (moved_call (p := 1) HND.out hfl HO.out (by decide) 1 rfl).mono ?_; rintro e w9 ⟨⟨v9, rfl, hn9⟩, hb9⟩
      have hcs9 := hb9.size
      rw [World.size_alloc] at hcs9
      have HN9 := Lib.hid hn9
      have B9 := Lib.hid (B8.out.trans (hb9.mono B8.out.size))
      have HG9 := Lib.hid (HG8.out.below hb9)
      have HM9 := Lib.hid (HM8.out.below hb9)
      clear hn9 hb9 HG8 HM8 B8 HND
      go_wp2_with (at_builtin; refine wpList_nds rfl _ _ rfl w7.heap.size rfl HG9.out (ys := re.map (sh 1)) rfl HN9.out.src (by rw [List.length_map, List.length_singleton]; omega) (by omega) ?_)
      intro va wa hma hgra hblka
      have hcsa := hgra.size
      have HNa := Lib.hid (show Nds wa w7.heap.size va (wrapN re) from hma)
      have Ba := Lib.hid (B9.out.grown hgra B9.out.size (fun k hk => by have := (HG9.out.lt k hk).1; omega))
      have HMa := Lib.hid (show Mks wa w3.heap.size v7 (wrapM ere L) from HM9.out.block fun g hg => hgra.block g (HM9.out.lt g hg).2 (fun e => by have := (HG9.out.lt g e.symm).1; have := h7.out g hg; omega))
      clear hma hgra hblka HG9 HN9 B9 HM9 h7
      have huw : ∀ i, i < (wrapM ere L).length → (markAt (wrapM ere L) i).b < 256 := u_append (u_append (signM_u ere 40 (by decide)) HV.out.u) (signM_u ere 41 (by decide))
      obtain ⟨o7, c7, rfl, hv7⟩ := HMa.out.toV huw
      have hwk := wrapN_kids HK.out
      have hwl : (wrapN re).length = re.length + 1 := by rw [wrapN, List.length_cons, List.length_map]
      obtain ⟨oa2, ca2, rfl, hva⟩ := HNa.out.toV (by omega) hwk
      have HVa := Lib.hid hva
      have HP := Lib.hid (parse_call (ere := ere) (cap := c7) (w := wa) hv7.arg)
      have HWL := Lib.hid hwl
      have HWK := Lib.hid hwk
      clear hva hv7 huw HNa HMa hwl hwk
      go_wp2_with fail
      refine HP.out.mono ?_; rintro e wb ⟨hr, hbb⟩
      have Bb := Lib.hid (HB3.out.trans ((Ba.out.trans (hbb.mono Ba.out.size)).mono HB3.out.size))
      have Vb := Lib.hid (HVa.out.below hbb)
      clear hbb HP Ba HVa hcs hcs6 hcs7 hcs9 hcsa
      rcases HW.out with ⟨hw1, hw2, hw3⟩ | ⟨⟨e1, i1, hw1⟩, hw2⟩
      · rw [hw1] at hr
        obtain ⟨vg, rfl, hng⟩ := hr
        obtain ⟨og, cg, rfl, hvg⟩ := hng.toV (by have := HWL.out; omega) HWK.out
        have VG := Lib.hid hvg
        have HW3 := Lib.hid hw3
        have hlen : ¬ (4096 : Int) < ((wrapM ere L).length : Int) := by omega
        clear hng hvg hw1 hw2 hw3
        go_wp2_with fail
        refine (copyNodes_call Vb.out (by have := HWL.out; omega) (by have := HWL.out; omega)).mono ?_; rintro e wd ⟨⟨vd, rfl, hnd⟩, hbd⟩
        obtain ⟨od, cd, rfl, hvd⟩ := hnd.toV (by have := HWL.out; omega) HWK.out
        have Vd := Lib.hid hvd
        have Bd := Lib.hid (Bb.out.trans (hbd.mono Bb.out.size))
        have Vbd := Lib.hid (Vb.out.below hbd)
        have VGd := Lib.hid (VG.out.below hbd)
        clear hnd hbd hvd Vb VG
        go_wp2_with fail
        refine (shaped_call Vd.out).mono ?_; rintro e we ⟨rfl, hbe⟩
        rw [HW3.out]
        have Be := Lib.hid (Bd.out.trans (hbe.mono Bd.out.size))
        have Vbe := Lib.hid (Vbd.out.below hbe)
        have VGe := Lib.hid (VGd.out.below hbe)
        clear hbe Vbd VGd Vd
        go_wp2_with fail
        refine (eqNodes_call VGe.out Vbe.out).mono ?_; rintro e wf ⟨rfl, hbf⟩
        rw [show decide (wrapN re = wrapN re) = true by simp]
        have Bf := Lib.hid (Be.out.trans (hbf.mono Be.out.size))
        clear hbf
        go_wp2_with fail
        refine works_call.mono ?_; rintro e wg ⟨rfl, hbg⟩
        have Bg := Lib.hid (Bf.out.trans (hbg.mono Bf.out.size))
        clear hbg
        go_wp2_with fail
        go_ret
        exact ⟨rfl, Bg.out⟩
      · rw [hw1] at hr
        simp only [ParR] at hr
        subst hr
        have hbad := parseL_bad (u_append (u_append (signM_u ere 40 (by decide)) HV.out.u) (signM_u ere 41 (by decide))) hw1
        have hne : ((e1 : Int) != 0) = true := by rw [bne_iff_ne]; have := hbad.1; omega
        have HW2 := Lib.hid hw2
        clear hbad hw1 hw2
        by_cases hlen : (4096 : Int) < ((wrapM ere L).length : Int)
        · go_wp2_with fail
          refine works_call.mono ?_; rintro e wg ⟨rfl, hbg⟩
          have Bg := Lib.hid (Bb.out.trans (hbg.mono Bb.out.size))
          clear hbg
          go_wp2_with fail
          go_ret
          exact ⟨rfl, Bg.out⟩
        · have HW3 := Lib.hid (show shapedN (wrapN re) = false from HW2.out.resolve_left (by omega))
          go_wp2_with fail
          refine (copyNodes_call Vb.out (by have := HWL.out; omega) (by have := HWL.out; omega)).mono ?_; rintro e wd ⟨⟨vd, rfl, hnd⟩, hbd⟩
          obtain ⟨od, cd, rfl, hvd⟩ := hnd.toV (by have := HWL.out; omega) HWK.out
          have Vd := Lib.hid hvd
          have Bd := Lib.hid (Bb.out.trans (hbd.mono Bb.out.size))
          clear hnd hbd hvd Vb
          go_wp2_with fail
          refine (shaped_call Vd.out).mono ?_; rintro e we ⟨rfl, hbe⟩
          rw [HW3.out]
          have Be := Lib.hid (Bd.out.trans (hbe.mono Bd.out.size))
          clear hbe Vd
          go_wp2_with fail
          refine works_call.mono ?_; rintro e wg ⟨rfl, hbg⟩
          have Bg := Lib.hid (Be.out.trans (hbg.mono Be.out.size))
          clear hbg
          go_wp2_with fail
          go_ret
          exact ⟨rfl, Bg.out⟩
theorem wraps_all (ere : Bool) {L : List Mk} {oa : Option Addr} {cap : Nat} {w : World} (hv : MkV w oa cap L) (_ : L.length * 2 ≤ 140737488351232) :
    Calls Try.prog 6 #[.bool ere, .slice oa L.length cap] w fun e w' => e = .returned (.bool true) ∧ Below w.heap.size w w' := by
  by_cases h : 2147483647 < L.length
  · exact wraps_long ere h
  · exact wraps_walk ere hv (by omega)
end Go.Proofs.Ytbdjcmhfcdamiaa
