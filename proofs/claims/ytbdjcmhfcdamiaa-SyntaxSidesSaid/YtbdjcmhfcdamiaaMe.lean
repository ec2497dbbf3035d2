/- SyntaxSides' walk. -/
import Derived.Test.YtbdjcmhfcdamiaaTj
import Derived.Test.YtbdjcmhfcdamiaaMc
namespace Go.Proofs.Ytbdjcmhfcdamiaa
open Go.RowKit

theorem Nds.toV2 {w : World} {base : Nat} {v : Value} {re : List Nd} (h : Nds w base v re) (hl : re.length ≤ 4294967296) (hk : ∀ x ∈ re, x.kids ≤ 9223372036854775807) : ∃ oa cp, v = .slice oa re.length cp ∧ re.length ≤ cp ∧ NdV w oa re := by
  rcases h.2 with ⟨rfl, h0⟩ | ⟨g, cp, cur, rfl, hg1, hg2, hcp, _⟩
  · exact ⟨none, 0, by rw [h0], by omega, hl, fun h => by omega⟩
  · refine ⟨_, _, rfl, hcp, hl, fun hn => ⟨g, 0, rfl, (Array.getElem?_eq_some_iff.1 hg2).1, hl, fun i hi j => ?_, hk⟩⟩
    by_cases hj : j < 9
    · left
      have hc := World.ownsRow.cellAt h (i * 9 + j) (by omega)
      rw [show 0 + i * 9 + j = i * 9 + j by omega, hc, ndsC_at re i j hi hj]
    · right; omega
theorem parseL_good {ere : Bool} {L : List Mk} {re : List Nd} (h : parseL ere L = .ok re) : ∀ x ∈ re, goodN x = true ∧ x.kids ≤ re.length := fun x hx => by
  obtain ⟨_, h1, t, w, h2, _⟩ := parseL_ok h
  have hgood := nodeN_good re _ _ _ _ _ (sidesK_top h2)
  obtain ⟨p, hp⟩ := List.mem_iff_getElem?.1 hx
  obtain ⟨y, hy, hg⟩ := hgood.2.2 p (Nat.zero_le _) (List.getElem?_eq_some_iff.1 hp).1
  rw [hp] at hy
  cases hy
  exact hg
theorem getD_mem {re : List Nd} (h : 0 < re.length) : re.getD 0 Nd.zero ∈ re := by
  cases re with
  | nil => simp at h
  | cons x l => simp
/-- What the sides of a tree that was read are like. -/
theorem sides_fit {L : List Mk} (hu : ∀ i, i < L.length → (markAt L i).b < 256) {re : List Nd} (h : parseL true L = .ok re) :
    ∃ (b : List Nd) (n : Nat), sidesN re = (b, (n : Int)) ∧ n ≤ 16386 ∧ b.length ≤ re.length ∧ ((re.getD 0 Nd.zero).op = 5 → 1 < re.length) ∧ cnt re ≤ 255 := by
  obtain ⟨h0, h1, t, w, h2, _⟩ := parseL_ok h
  obtain ⟨n, b, h3, h4, h5, h6⟩ := sidesK_runs hu h0 h2
  have hp := (parseL_says h).2.1
  have hg := parseL_good h _ (getD_mem hp)
  have hf := (parseL_fit hu h).1
  have hc : cnt re ≤ 255 := by rw [← sidesK_cnt h2]; exact (sidesK_tree 64 (Nat.le_refl _) (by simp) h2).2
  refine ⟨b, n, h5, ?_, ?_, fun h => ?_, hc⟩
  · unfold sidesN at h5
    split at h5
    · simp only [Prod.mk.injEq] at h5
      have := h5.2
      have := hg.2
      omega
    · simp only [Prod.mk.injEq] at h5
      have := h5.2
      omega
  · unfold sidesN at h5
    split at h5
    · simp only [Prod.mk.injEq] at h5
      rw [← h5.1, List.length_drop]
      omega
    · simp only [Prod.mk.injEq] at h5
      rw [h5.1]
      exact Nat.le_refl _
  · have hgd := hg.1
    simp only [goodN, h, Bool.and_eq_true] at hgd
    have hk : 2 ≤ (re.getD 0 Nd.zero).kids := by simpa using hgd.2
    have := hg.2
    omega
theorem sidesN_mem {re : List Nd} {z : Nd} (h : z ∈ (sidesN re).1) : z ∈ re := by
  unfold sidesN at h
  split at h
  · exact List.mem_of_mem_drop h
  · exact h
theorem barN_kids {x y : List Nd} (hx : ∀ z ∈ x, z.kids ≤ 100000) (hy : ∀ z ∈ y, z.kids ≤ 100000) (hn : (sidesN x).2 + (sidesN (y.map (sh (cnt x)))).2 ≤ 100000) : ∀ z ∈ barN x y, z.kids ≤ 9223372036854775807 := fun z hz => by
  unfold barN at hz
  rcases List.mem_cons.1 hz with rfl | hz
  · show (sidesN x).2 + (sidesN (y.map (sh (cnt x)))).2 ≤ _
    omega
  · rcases List.mem_append.1 hz with hz | hz
    · have := hx z (sidesN_mem hz); omega
    · obtain ⟨u, hu, rfl⟩ := List.mem_map.1 (sidesN_mem hz)
      rw [sh_kids]
      have := hy u hu
      omega
set_option maxRecDepth 100000 in
set_option maxHeartbeats 1600000 in
theorem sides_long {A B : List Mk} {oa ob : Option Addr} {ca cb : Nat} {w : World} (hl : 2147483647 < A.length + B.length) (z1 : A.length * 2 ≤ 140737488351232) (z2 : B.length * 2 ≤ 140737488351232) :
    Calls Try.prog 7 #[.slice oa A.length ca, .slice ob B.length cb] w fun e w' => e = .returned (.bool true) ∧ Below w.heap.size w w' := by
  have h1 : decide ((2147483647 : Int) < (A.length : Int) + (B.length : Int)) = true := decide_eq_true (by omega)
  clear hl
  go_enter Try.func7, Try.ntmps7
  go_wp2_with fail
  refine (long_call _).mono ?_; rintro e w1 ⟨rfl, rfl⟩
  rw [h1]
  go_wp2_with fail
  go_ret
  exact ⟨rfl, Below.refl _ _⟩
set_option maxRecDepth 100000 in
set_option maxHeartbeats 3200000 in
theorem sides_walk {A B : List Mk} {oa ob : Option Addr} {ca cb : Nat} {w : World} (hv : MkV w oa ca A) (hv2 : MkV w ob cb B) (hl : A.length + B.length ≤ 2147483647) (z1 : A.length * 2 ≤ 140737488351232) (z2 : B.length * 2 ≤ 140737488351232) :
    Calls Try.prog 7 #[.slice oa A.length ca, .slice ob B.length cb] w fun e w' => e = .returned (.bool true) ∧ Below w.heap.size w w' := by
  have h1 : Hid (decide ((2147483647 : Int) < (A.length : Int) + (B.length : Int)) = false) := decide_eq_false (by omega)
  have HA := Lib.hid hv
  have HB := Lib.hid hv2
  have HL := Lib.hid hl
  clear hv hv2 hl
  go_enter Try.func7, Try.ntmps7
  go_wp2_with fail
  refine (long_call _).mono ?_; rintro e w1 ⟨rfl, rfl⟩
  rw [h1.out]
  go_wp2_with fail
  refine (copyMarks_call HA.out (by have := HL.out; omega)).mono ?_; rintro e w1 ⟨⟨v1, rfl, hm1⟩, hb1⟩
  obtain ⟨o1, c1, rfl, hv1⟩ := hm1.toV HA.out.u
  have HB1 := Lib.hid hb1
  have HP := Lib.hid (parse_call (ere := true) (cap := c1) (w := w1) hv1.arg)
  clear hm1 hb1 hv1
  go_wp2_with fail
  refine HP.out.mono ?_; rintro e w2 ⟨hr, hb2⟩
  have HB2 := Lib.hid (HB1.out.trans (hb2.mono HB1.out.size))
  clear hb2 HP HB1
  cases hp : parseL true A with
  | error q =>
    obtain ⟨e0, i0⟩ := q
    rw [hp] at hr
    simp only [ParR] at hr
    subst hr
    have hbad := parseL_bad HA.out.u hp
    have hne : ((e0 : Int) != 0) = true := by rw [bne_iff_ne]; have := hbad.1; omega
    clear hp hbad
    go_wp2_with fail
    refine (copyMarks_call (HB.out.below HB2.out) (by have := HL.out; omega)).mono ?_; rintro e w3 ⟨⟨v3, rfl, hm3⟩, hb3⟩
    obtain ⟨o3, c3, rfl, hv3⟩ := hm3.toV HB.out.u
    have HB3 := Lib.hid (HB2.out.trans (hb3.mono HB2.out.size))
    have HP := Lib.hid (parse_call (ere := true) (cap := c3) (w := w3) hv3.arg)
    clear hm3 hb3 hv3
    go_wp2_with fail
    refine HP.out.mono ?_; rintro e w4 ⟨hr, hb4⟩
    have HB4 := Lib.hid (HB3.out.trans (hb4.mono HB3.out.size))
    clear hb4 HP
    obtain ⟨y1, y2, y3, rfl⟩ : ∃ y1 y2 y3, e = .returned (.tuple #[y1, .int .i64 y2, y3]) := by
      cases hq : parseL true B with
      | error q => obtain ⟨a, b⟩ := q; rw [hq] at hr; exact ⟨_, _, _, hr⟩
      | ok re => rw [hq] at hr; obtain ⟨v, rfl, _⟩ := hr; exact ⟨_, _, _, rfl⟩
    clear hr
    go_wp2_with fail
    refine works_call.mono ?_; rintro e w5 ⟨rfl, hb5⟩
    have HB5 := Lib.hid (HB4.out.trans (hb5.mono HB4.out.size))
    clear hb5
    go_wp2_with fail
    go_ret
    exact ⟨rfl, HB5.out⟩
  | ok x =>
    rw [hp] at hr
    obtain ⟨v2, rfl, hn2⟩ := hr
    obtain ⟨hfl, hfk, hfo⟩ := parseL_fit HA.out.u hp
    obtain ⟨hsx, hposx, _⟩ := parseL_says hp
    obtain ⟨o2, c2, rfl, hc2, hv2⟩ := hn2.toV2 (by omega) (fun z hz => by have := hfk z hz; omega)
    have HX2 := Lib.hid hv2
    have HSX := Lib.hid hsx
    have HOX := Lib.hid hfo
    have HPX := Lib.hid hp
    have HKX := Lib.hid hfk
    clear hn2 hv2 hsx hp hfk hfo
    go_wp2_with fail
    refine (copyMarks_call (HB.out.below HB2.out) (by have := HL.out; omega)).mono ?_; rintro e w3 ⟨⟨v3, rfl, hm3⟩, hb3⟩
    obtain ⟨o3, c3, rfl, hv3⟩ := hm3.toV HB.out.u
    have HB3 := Lib.hid (HB2.out.trans (hb3.mono HB2.out.size))
    have HX3 := Lib.hid (HX2.out.below hb3)
    have HP := Lib.hid (parse_call (ere := true) (cap := c3) (w := w3) hv3.arg)
    clear hm3 hb3 hv3 HX2 HB2
    go_wp2_with fail
    refine HP.out.mono ?_; rintro e w4 ⟨hr, hb4⟩
    have HB4 := Lib.hid (HB3.out.trans (hb4.mono HB3.out.size))
    have HX4 := Lib.hid (HX3.out.below hb4)
    clear hb4 HP HX3 HB3
    have hxl : ((x.length : Int) == 0) = false := beq_eq_false_iff_ne.2 (by omega)
    cases hp : parseL true B with
    | error q =>
      obtain ⟨e0, i0⟩ := q
      rw [hp] at hr
      simp only [ParR] at hr
      subst hr
      have hbad := parseL_bad HB.out.u hp
      have hne : ((e0 : Int) != 0) = true := by rw [bne_iff_ne]; have := hbad.1; omega
      clear hp hbad
      go_wp2_with fail
      refine works_call.mono ?_; rintro e w5 ⟨rfl, hb5⟩
      have HB5 := Lib.hid (HB4.out.trans (hb5.mono HB4.out.size))
      clear hb5
      go_wp2_with fail
      go_ret
      exact ⟨rfl, HB5.out⟩
    | ok y =>
      rw [hp] at hr
      obtain ⟨v4, rfl, hn4⟩ := hr
      obtain ⟨hgl, hgk, hgo⟩ := parseL_fit HB.out.u hp
      obtain ⟨_, hposy, _⟩ := parseL_says hp
      obtain ⟨o4, c4, rfl, hc4, hv4⟩ := hn4.toV2 (by omega) (fun z hz => by have := hgk z hz; omega)
      have HY4 := Lib.hid hv4
      have HOY := Lib.hid hgo
      have HKY := Lib.hid hgk
      have HPY := Lib.hid hp
      have hyl : ((y.length : Int) == 0) = false := beq_eq_false_iff_ne.2 (by omega)
      clear hn4 hv4 hp hgk hgo
      have HSL := Lib.hid (HA.out.below HB4.out).src
      go_wp2_with (at_builtin; refine wpList_mks rfl _ _ rfl w4.heap.size rfl (Mks.nil _ _) (ys := A) rfl HSL.out (by have := HL.out; simp only [List.length_nil]; omega) (Nat.le_refl _) ?_)
      intro v5 w5 hm5 hgr5 hblk5
      have HM5 := Lib.hid (show Mks w5 w4.heap.size v5 A from hm5)
      have B5 := Lib.hid ((Below.refl w4.heap.size w4).grown hgr5 (Nat.le_refl _) (fun k hk => by cases hk))
      have HM5a := Lib.hid (HM5.out.below ((Below.refl _ _).alloc (Nat.le_refl _) (.cells #[.int .u8 124, .bool false] 46)))
      clear hm5 hgr5 hblk5 HSL
      go_wp2_with (at_builtin; refine wpList_mks rfl _ _ rfl w4.heap.size rfl HM5a.out (ys := [⟨124, false⟩]) rfl (Src.new w5 (mksC [⟨124, false⟩]) _ _ _) (by have := HL.out; simp only [List.length_singleton]; omega) (by have := B5.out.size; rw [World.size_alloc]; omega) ?_)
      intro v6 w6 hm6 hgr6 hblk6
      have HM6 := Lib.hid (show Mks w6 w4.heap.size v6 (A ++ [⟨124, false⟩]) from hm6)
      have B6 := Lib.hid ((B5.out.alloc B5.out.size (.cells #[.int .u8 124, .bool false] 46)).grown hgr6 (by have := B5.out.size; rw [World.size_alloc]; omega) (fun k hk => (HM5.out.lt k hk).1))
      have HSL := Lib.hid (HB.out.below (HB4.out.trans (B6.out.mono HB4.out.size))).src
      clear hm6 hgr6 hblk6 HM5 HM5a B5
      go_wp2_with (at_builtin; refine wpList_mks rfl _ _ rfl w4.heap.size rfl HM6.out (ys := B) rfl HSL.out (by have := HL.out; simp only [List.length_append, List.length_singleton]; omega) B6.out.size ?_)
      intro v7 w7 hm7 hgr7 hblk7
      have HM7 := Lib.hid (show Mks w7 w4.heap.size v7 (barM A B) by rw [barM, List.append_assoc]; exact hm7)
      have B7 := Lib.hid (B6.out.grown hgr7 B6.out.size (fun k hk => (HM6.out.lt k hk).1))
      clear hm7 hgr7 hblk7 HM6 B6 HSL
      obtain ⟨bx, nx, hsx, hnx, hbx, h5x, hcx⟩ := sides_fit HA.out.u HPX.out
      obtain ⟨by_, ny, hsy, hny, hby, h5y, _⟩ := sides_fit HB.out.u HPY.out
      obtain ⟨xb, xo, hxa, hxn⟩ := (HX4.out.below B7.out).at_ hposx
      subst hxa
      have HXN := Lib.hid hxn
      have HSX2 := Lib.hid hsx
      have HSY2 := Lib.hid hsy
      have H5X := Lib.hid h5x
      have H5Y := Lib.hid h5y
      clear hxn hsx hsy h5x h5y
      have HW := Lib.hid (parseL_sides HA.out.u HB.out.u HPX.out HPY.out)
      have HBK := Lib.hid (barN_kids (x := x) (y := y) (fun z hz => by have := HKX.out z hz; omega) (fun z hz => by have := HKY.out z hz; omega) (by rw [sidesN_map, HSX2.out, HSY2.out]; simp only; omega))
      go_wp2_with fail
      refine (sidesOf_call HXN.out hposx hc2 (by have := HOX.out _ (getD_mem hposx); omega) H5X.out).mono ?_
      rintro e w8 ⟨⟨n8, c8, rfl, hs8⟩, hb8⟩
      rw [HSX2.out] at hs8 ⊢
      have HS8 := Lib.hid hs8
      have B8 := Lib.hid hb8
      have HX8 := Lib.hid ((HX4.out.below B7.out).below hb8)
      clear hs8 hb8 HXN
      simp only
      go_wp2_with fail
      refine (groups_call HX8.out).mono ?_; rintro e w9 ⟨rfl, hb9⟩
      rw [groupsN_read HSX.out]
      have B9 := Lib.hid (B8.out.trans (hb9.mono B8.out.size))
      obtain ⟨yb, yo, hya, hyn⟩ := (HY4.out.below (B7.out.trans (B9.out.mono B7.out.size))).at_ hposy
      subst hya
      have HYN := Lib.hid hyn
      clear hb9 hyn HX8 B8
      generalize hcc : cnt x = cx at *
      go_wp2_with fail
      refine (moved_call (p := cx) HYN.out hgl HOY.out hcx (cx : Int) rfl).mono ?_
      rintro e w10 ⟨⟨v10, rfl, hn10⟩, hb10⟩
      have B10 := Lib.hid (B9.out.trans (hb10.mono B9.out.size))
      have hlm : (y.map (sh cx)).length = y.length := List.length_map _
      obtain ⟨o10, c10, rfl, hc10, hv10⟩ := hn10.toV2 (by omega) (fun z hz => by
        obtain ⟨u, hu, rfl⟩ := List.mem_map.1 hz
        rw [sh_kids]
        have := HKY.out u hu
        omega)
      obtain ⟨zb, zo, hza, hzn⟩ := hv10.at_ (by omega)
      subst hza
      have HZN := Lib.hid hzn
      have HZ5 := Lib.hid (show ((y.map (sh cx)).getD 0 Nd.zero).op = 5 → 1 < (y.map (sh cx)).length by rw [sh_head, hlm]; exact H5Y.out)
      have HZO := Lib.hid (show 1 ≤ ((y.map (sh cx)).getD 0 Nd.zero).op ∧ ((y.map (sh cx)).getD 0 Nd.zero).op ≤ 8 by rw [sh_head]; have := HOY.out _ (getD_mem hposy); omega)
      have HZS := Lib.hid (show sidesN (y.map (sh cx)) = (by_.map (sh cx), (ny : Int)) by rw [sidesN_map, HSY2.out])
      have HBN := Lib.hid (show barN x y = ⟨5, Cls.zero, 0, 0, 0, (nx : Int) + (ny : Int)⟩ :: (bx ++ by_.map (sh cx)) by unfold barN; rw [hcc, HSX2.out, HZS.out])
      have hzp : 0 < (y.map (sh cx)).length := by omega
      have hbl : (by_.map (sh cx)).length ≤ 16386 := by rw [List.length_map]; omega
      have HLM := Lib.hid hlm
      have HCC := Lib.hid hcc
      clear hn10 hv10 hzn hb10 hlm hcc HYN
      generalize y.map (sh cx) = y2 at *
      generalize by_.map (sh cx) = b2 at *
      go_wp2_with fail
      refine (sidesOf_call HZN.out hzp hc10 HZO.out HZ5.out).mono ?_
      rintro e w11 ⟨⟨n11, c11, rfl, hs11⟩, hb11⟩
      rw [HZS.out] at hs11 ⊢
      have HS11 := Lib.hid hs11
      have B11 := Lib.hid (B10.out.trans (hb11.mono B10.out.size))
      have C11 := Lib.hid hb11
      clear hs11 hb11
      simp only
      have hz11 := C11.out.size
      have hz10 := B10.out.size
      have hz11b := B11.out.size
      have B12 := Lib.hid (B11.out.alloc B11.out.size (.cells #[.int .i8 5, .int .u64 0, .int .u64 0, .int .u64 0, .int .u64 0, .int .i64 0, .int .i64 0, .int .i64 0, .int .i64 ((nx : Int) + (ny : Int))] 33))
      have C12 := Lib.hid (C11.out.alloc C11.out.size (.cells #[.int .i8 5, .int .u64 0, .int .u64 0, .int .u64 0, .int .u64 0, .int .i64 0, .int .i64 0, .int .i64 0, .int .i64 ((nx : Int) + (ny : Int))] 33))
      have HG12 := Lib.hid (show Nds (w11.alloc (.cells #[.int .i8 5, .int .u64 0, .int .u64 0, .int .u64 0, .int .u64 0, .int .i64 0, .int .i64 0, .int .i64 0, .int .i64 ((nx : Int) + (ny : Int))] 33)) w11.heap.size (.slice (some ⟨w11.heap.size, 0, none⟩) 1 1) [⟨5, Cls.zero, 0, 0, 0, (nx : Int) + (ny : Int)⟩] from Nds.lit w11 w11.heap.size ⟨5, Cls.zero, 0, 0, 0, (nx : Int) + (ny : Int)⟩ (Nat.le_refl _))
      have HSA := Lib.hid (HS8.out _ B12.out)
      clear C11 B11
      go_wp2_with (at_builtin; refine wpList_nds rfl _ _ rfl w11.heap.size rfl HG12.out (ys := bx) rfl HSA.out (by simp only [List.length_singleton]; omega) (by rw [World.size_alloc]; omega) ?_)
      intro v13 w13 hm13 hgr13 hblk13
      have hz13 := hgr13.size
      rw [World.size_alloc] at hz13
      have HN13 := Lib.hid (show Nds w13 w11.heap.size v13 ([⟨5, Cls.zero, 0, 0, 0, (nx : Int) + (ny : Int)⟩] ++ bx) from hm13)
      have B13 := Lib.hid (B12.out.grown hgr13 (by rw [World.size_alloc]; omega) (fun k hk => by have := (HG12.out.lt k hk).1; omega))
      have C13 := Lib.hid (C12.out.grown hgr13 (by rw [World.size_alloc]; omega) (fun k hk => by have := (HG12.out.lt k hk).1; omega))
      have HSB := Lib.hid (HS11.out _ C13.out)
      clear hm13 hgr13 hblk13 HG12 HSA B12 C12 HS8 HS11
      go_wp2_with (at_builtin; refine wpList_nds rfl _ _ rfl w11.heap.size rfl HN13.out (ys := b2) rfl HSB.out (by simp only [List.length_append, List.length_singleton]; omega) (by omega) ?_)
      intro v14 w14 hm14 hgr14 hblk14
      have HN14 := Lib.hid (show Nds w14 w11.heap.size v14 (barN x y) by rw [HBN.out]; simpa using hm14)
      have B14 := Lib.hid (B13.out.grown hgr14 (by omega) (fun k hk => by have := (HN13.out.lt k hk).1; omega))
      have HBL := Lib.hid (show 0 < (barN x y).length ∧ (barN x y).length ≤ 100000 by rw [HBN.out, List.length_cons, List.length_append]; omega)
      clear hm14 hgr14 hblk14 HN13 B13 C13 HSB HBN HZN HZ5 HZO HZS
      have huw : ∀ i, i < (barM A B).length → (markAt (barM A B) i).b < 256 := u_append (u_append HA.out.u (fun i hi => by
        have h0 : i = 0 := by simpa using hi
        rw [h0]
        show 124 < 256
        decide)) HB.out.u
      have hM14 := HM7.out.below B14.out
      obtain ⟨o7, c7, rfl, hv7⟩ := hM14.toV huw
      obtain ⟨ow, cw, rfl, _, hvw⟩ := HN14.out.toV2 (by have := HBL.out; omega) HBK.out
      have HVW := Lib.hid hvw
      have HP := Lib.hid (parse_call (ere := true) (cap := c7) (w := w14) hv7.arg)
      have HB14 := Lib.hid (HB4.out.trans ((B7.out.trans (B14.out.mono B7.out.size)).mono HB4.out.size))
      have HUW := Lib.hid huw
      clear hvw hv7 huw hM14 HN14 HM7 B14 B10 B9
      go_wp2_with fail
      refine HP.out.mono ?_; rintro e wb ⟨hr, hbb⟩
      have Bb := Lib.hid (HB14.out.trans (hbb.mono HB14.out.size))
      have Vb := Lib.hid (HVW.out.below hbb)
      clear hbb HP HVW
      rcases HW.out with ⟨hw1, hw2, hw3⟩ | ⟨⟨e1, i1, hw1⟩, hw2⟩
      · rw [hw1] at hr
        obtain ⟨vg, rfl, hng⟩ := hr
        obtain ⟨og, cg, rfl, _, hvg⟩ := hng.toV2 (by have := HBL.out; omega) HBK.out
        have VG := Lib.hid hvg
        have HW3 := Lib.hid hw3
        have hlen : ¬ (4096 : Int) < ((barM A B).length : Int) := by omega
        clear hng hvg hw1 hw2 hw3
        go_wp2_with fail
        refine (copyNodes_call Vb.out (by have := HBL.out; omega) (by have := HBL.out; omega)).mono ?_; rintro e wd ⟨⟨vd, rfl, hnd⟩, hbd⟩
        obtain ⟨od, cd, rfl, _, hvd⟩ := hnd.toV2 (by have := HBL.out; omega) HBK.out
        have Vd := Lib.hid hvd
        have Bd := Lib.hid (Bb.out.trans (hbd.mono Bb.out.size))
        have Vbd := Lib.hid (Vb.out.below hbd)
        have VGd := Lib.hid (VG.out.below hbd)
        clear hnd hbd hvd Vb VG
        go_wp2_with fail
        refine (shaped_call Vd.out).mono ?_; rintro e we ⟨rfl, hbe⟩
        rw [HW3.out]
        have Be := Lib.hid (Bd.out.trans (hbe.mono Bd.out.size))
        have Vbe := Lib.hid (Vbd.out.below hbe)
        have VGe := Lib.hid (VGd.out.below hbe)
        clear hbe Vbd VGd Vd
        go_wp2_with fail
        refine (eqNodes_call VGe.out Vbe.out).mono ?_; rintro e wf ⟨rfl, hbf⟩
        rw [show decide (barN x y = barN x y) = true by simp]
        have Bf := Lib.hid (Be.out.trans (hbf.mono Be.out.size))
        clear hbf
        go_wp2_with fail
        refine works_call.mono ?_; rintro e wg ⟨rfl, hbg⟩
        have Bg := Lib.hid (Bf.out.trans (hbg.mono Bf.out.size))
        clear hbg
        go_wp2_with fail
        go_ret
        exact ⟨rfl, Bg.out⟩
      · rw [hw1] at hr
        simp only [ParR] at hr
        subst hr
        have hbad := parseL_bad HUW.out hw1
        have hne : ((e1 : Int) != 0) = true := by rw [bne_iff_ne]; have := hbad.1; omega
        have HW2 := Lib.hid hw2
        clear hbad hw1 hw2
        by_cases hlen : (4096 : Int) < ((barM A B).length : Int)
        · go_wp2_with fail
          refine works_call.mono ?_; rintro e wg ⟨rfl, hbg⟩
          have Bg := Lib.hid (Bb.out.trans (hbg.mono Bb.out.size))
          clear hbg
          go_wp2_with fail
          go_ret
          exact ⟨rfl, Bg.out⟩
        · have HW3 := Lib.hid (show shapedN (barN x y) = false from HW2.out.resolve_left (by omega))
          go_wp2_with fail
          refine (copyNodes_call Vb.out (by have := HBL.out; omega) (by have := HBL.out; omega)).mono ?_; rintro e wd ⟨⟨vd, rfl, hnd⟩, hbd⟩
          obtain ⟨od, cd, rfl, _, hvd⟩ := hnd.toV2 (by have := HBL.out; omega) HBK.out
          have Vd := Lib.hid hvd
          have Bd := Lib.hid (Bb.out.trans (hbd.mono Bb.out.size))
          clear hnd hbd hvd Vb
          go_wp2_with fail
          refine (shaped_call Vd.out).mono ?_; rintro e we ⟨rfl, hbe⟩
          rw [HW3.out]
          have Be := Lib.hid (Bd.out.trans (hbe.mono Bd.out.size))
          clear hbe Vd
          go_wp2_with fail
          refine works_call.mono ?_; rintro e wg ⟨rfl, hbg⟩
          have Bg := Lib.hid (Be.out.trans (hbg.mono Be.out.size))
          clear hbg
          go_wp2_with fail
          go_ret
          exact ⟨rfl, Bg.out⟩
theorem sides_all {A B : List Mk} {oa ob : Option Addr} {ca cb : Nat} {w : World} (hv : MkV w oa ca A) (z1 : A.length * 2 ≤ 140737488351232) (hv2 : MkV w ob cb B) (z2 : B.length * 2 ≤ 140737488351232) :
    Calls Try.prog 7 #[.slice oa A.length ca, .slice ob B.length cb] w fun e w' => e = .returned (.bool true) ∧ Below w.heap.size w w' := by
  by_cases h : 2147483647 < A.length + B.length
  · exact sides_long h z1 z2
  · exact sides_walk hv hv2 (by omega) z1 z2
end Go.Proofs.Ytbdjcmhfcdamiaa
