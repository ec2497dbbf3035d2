/- Parts: Mh. -/
import Derived.Test.YtbdjcmhfcdamiaaDoorQ18
import Derived.Test.YtbdjcmhfcdamiaaDoorQ19
import Derived.Test.YtbdjcmhfcdamiaaDoorQ22
/- SyntaxCounts' walk. -/
namespace Go.Proofs.YtbdjcmhfcdamiaaDoor
open Go.RowKit

theorem below_grow {w : World} (k : Nat) (os : Array Obj) : Below w.heap.size w (Go.Sort.grow (w.drewN k) os) :=
  ⟨rfl, rfl, rfl, by show w.heap.size ≤ (w.heap ++ os).size; rw [Array.size_append]; omega, fun j hj => by show (w.heap ++ os)[j]? = _; rw [Array.getElem?_append_left hj]⟩
def PowTab (w : World) : Prop := Lib.TabIs Tryd.prog w "internal/strconv.uint64pow10" .u64 Lib.pow10Tab
theorem PowTab.below {w w' : World} (h : PowTab w) (hb : Below w.heap.size w w') : PowTab w' := by
  unfold PowTab Lib.TabIs World.var? at h ⊢
  generalize Tryd.prog.globalNamed "internal/strconv.uint64pow10" = og at h ⊢
  cases og with
  | none => simp at h
  | some g =>
    simp only [Option.bind_some] at h ⊢
    have hlt : g < w.heap.size := by
      by_cases hlt : g < w.heap.size
      · exact hlt
      · rw [Array.getElem?_eq_none (by omega)] at h; cases h
    rw [hb.block g hlt]
    exact h
theorem itoa_call {n : Int} (h0 : -9223372036854775808 ≤ n) (h1 : n ≤ 9223372036854775807) {w : World} (ht : PowTab w) :
    Calls Tryd.prog 20 #[.int .i64 n] w fun e w' => e = .returned (.string ⟨(Lib.itoa n).toArray⟩) ∧ Below w.heap.size w w' :=
  (shl.strconv_Itoa n h0 h1 w ht).mono fun _ _ ⟨he, k, os, hw⟩ => ⟨he, hw ▸ below_grow k os⟩
theorem itoa_bytes (n : Int) : bytesOf ⟨(Lib.itoa n).toArray⟩ = itoB n := by
  unfold bytesOf itoB Lib.itoa digB
  split <;> simp
theorem bytesOf_append (a b : ByteArray) : bytesOf (a ++ b) = bytesOf a ++ bytesOf b := by
  unfold bytesOf
  simp
/-- The argument's cells. -/
structure CntAt (w : World) (b : Nat) (ere : Bool) (m n way : Int) : Prop where
  lt : b < w.heap.size
  c0 : w.cell? ⟨b, 0, none⟩ = some (.bool ere)
  c1 : w.cell? ⟨b, 1, none⟩ = some (.int .i64 m)
  c2 : w.cell? ⟨b, 2, none⟩ = some (.int .i64 n)
  c3 : w.cell? ⟨b, 3, none⟩ = some (.int .i8 way)
theorem CntAt.below {w w' : World} {b : Nat} {ere : Bool} {m n way : Int} (h : CntAt w b ere m n way) (hb : Below w.heap.size w w') : CntAt w' b ere m n way :=
  ⟨Nat.lt_of_lt_of_le h.lt hb.size, (hb.cell (p := ⟨b, 0, none⟩) h.lt).trans h.c0, (hb.cell (p := ⟨b, 1, none⟩) h.lt).trans h.c1, (hb.cell (p := ⟨b, 2, none⟩) h.lt).trans h.c2, (hb.cell (p := ⟨b, 3, none⟩) h.lt).trans h.c3⟩
theorem CntAt.new (w : World) (ere : Bool) (m n way : Int) (t : TypeId) : CntAt (w.alloc (.cells #[.bool ere, .int .i64 m, .int .i64 n, .int .i8 way] t)) w.heap.size ere m n way :=
  ⟨by simp, by simp [go_sem], by simp [go_sem], by simp [go_sem], by simp [go_sem]⟩
theorem textM_mk (s : ByteArray) : textM s = (bytesOf s).map mk := rfl
def hi1 (m way : Int) : Int := if way = 1 then -1 else m
def body1 (m way : Int) : List Nat := itoB m ++ (if way = 1 then [44] else [])
set_option maxRecDepth 100000 in
set_option maxHeartbeats 3200000 in
theorem counts_all {ere : Bool} {m n way : Int} {w : World} (bm : -9223372036854775808 ≤ m ∧ m ≤ 9223372036854775807) (bn : -9223372036854775808 ≤ n ∧ n ≤ 9223372036854775807) (ht : PowTab w) :
    Calls Tryd.prog 5 #[.agg #[.bool ere, .int .i64 m, .int .i64 n, .int .i8 way]] w fun e w' => e = .returned (.bool true) ∧ Below w.heap.size w w' := by
  have HT := Lib.hid ht
  have HM := Lib.hid bm
  have HN := Lib.hid bn
  clear ht bm bn
  go_enter Tryd.func5, Tryd.ntmps5
  go_upto_region 1 with fail
  have hc := CntAt.new w ere m n way 66
  have hb : Below w.heap.size w (w.alloc (.cells #[.bool ere, .int .i64 m, .int .i64 n, .int .i8 way] 66)) := (Below.refl _ _).alloc (Nat.le_refl _) _
  revert hc hb
  generalize w.alloc (.cells #[.bool ere, .int .i64 m, .int .i64 n, .int .i8 way] 66) = wx
  intro hc hb
  have hlt := hc.lt
  have HC := Lib.hid hc
  have BX := Lib.hid hb
  obtain ⟨_, z0, z1, z2, z3⟩ := hc
  clear hb
  go_wp2_with fail
  refine (itoa_call HM.out.1 HM.out.2 (HT.out.below BX.out)).mono ?_; rintro e w1 ⟨rfl, hb1⟩
  have HC1 := Lib.hid (HC.out.below hb1)
  have B1 := Lib.hid (BX.out.trans (hb1.mono BX.out.size))
  clear hb1 z0 z1 z2 z3 hlt BX HC
  obtain ⟨hlt, z0, z1, z2, z3⟩ := HC1.out
  have HS := Lib.hid (itoa_bytes m)
  generalize (⟨(Lib.itoa m).toArray⟩ : ByteArray) = s1 at HS ⊢
  have hs1 : s1.size ≤ 20 := by rw [← bytesOf_length, HS.out]; exact itoB_len HM.out.1 HM.out.2
  have hs1' : ¬ 9223372036854775807 < s1.size + 1 := by omega
  go_upto_if 18 with fail
  go_cut [4, 5] (fun sv hv wd => (∃ s, sv = .string s ∧ bytesOf s = body1 m way) ∧ hv = .int .i64 (hi1 m way) ∧ Below w.heap.size w wd ∧ CntAt wd w.heap.size ere m n way)
  case first =>
    by_cases hw : way = 1
    · subst hw
      go_wp2_with fail
      go_meet
      exact ⟨⟨_, rfl, by rw [bytesOf_append, HS.out]; rfl⟩, rfl, B1.out, HC1.out⟩
    · have hw' : (way == 1) = false := beq_eq_false_iff_ne.2 hw
      go_wp2_with fail
      go_meet
      exact ⟨⟨_, rfl, by rw [HS.out, body1, if_neg hw, List.append_nil]⟩, by rw [hi1, if_neg hw], B1.out, HC1.out⟩
  case rest =>
  obtain ⟨⟨s2, hv4, hs2⟩, hv5, hb, hc⟩ := hcut
  subst hv4 hv5
  have HS2 := Lib.hid hs2
  have HB := Lib.hid hb
  have HC := Lib.hid hc
  have hz2 : s2.size ≤ 21 := by
    have := itoB_len HM.out.1 HM.out.2
    rw [← bytesOf_length, hs2, body1, List.length_append]
    split <;> simp <;> omega
  clear hs1 hs1' HS HC1 B1 z0 z1 z2 z3 hlt hs2 hb
  obtain ⟨hlt, z0, z1, z2, z3⟩ := hc
  have hz2' : ¬ 9223372036854775807 < s2.size + 1 := by omega
  have hhi : Hid (way ≠ 2 → hi1 m way = countHi m n way) := fun hw => by
    unfold countHi hi1
    rw [if_neg hw]
  go_upto_if 23 with fail
  go_cut [4, 5] (fun sv hv wd => (∃ s, sv = .string s ∧ bytesOf s = countBody m n way) ∧ hv = .int .i64 (countHi m n way) ∧ Below w.heap.size w wd ∧ CntAt wd w.heap.size ere m n way)
  case first =>
    by_cases hw : way = 2
    · subst hw
      go_wp2_with fail
      refine (itoa_call HN.out.1 HN.out.2 (HT.out.below HB.out)).mono ?_; rintro e w2 ⟨rfl, hb2⟩
      have HC2 := Lib.hid (HC.out.below hb2)
      have B2 := Lib.hid (HB.out.trans (hb2.mono HB.out.size))
      have HSn := Lib.hid (itoa_bytes n)
      clear hb2 z0 z1 z2 z3 hlt
      obtain ⟨hlt, z0, z1, z2, z3⟩ := HC2.out
      generalize (⟨(Lib.itoa n).toArray⟩ : ByteArray) = s3 at HSn ⊢
      have hs3 : s3.size ≤ 20 := by rw [← bytesOf_length, HSn.out]; exact itoB_len HN.out.1 HN.out.2
      have hs3' : ¬ 9223372036854775807 < s2.size + 1 + s3.size := by omega
      go_wp2_with fail
      go_meet
      exact ⟨⟨_, rfl, by rw [bytesOf_append, bytesOf_append, HS2.out, HSn.out, body1, countBody, if_neg (by decide), if_neg (by decide), if_pos rfl, List.append_nil, List.append_assoc]; rfl⟩, rfl, B2.out, HC2.out⟩
    · have hw' : (way == 2) = false := beq_eq_false_iff_ne.2 hw
      go_wp2_with fail
      go_meet
      exact ⟨⟨_, rfl, by rw [HS2.out, body1, countBody, if_neg hw]⟩, by rw [hhi.out hw], HB.out, HC.out⟩
  case rest =>
  obtain ⟨⟨s4, hv4, hs4⟩, hv5, hb, hc⟩ := hcut
  subst hv4 hv5
  have HS4 := Lib.hid hs4
  clear HS2 hz2 hz2' HB HC z0 z1 z2 z3 hlt hhi
  have HB := Lib.hid hb
  have HC := Lib.hid hc
  have hz4 : s4.size ≤ 41 := by rw [← bytesOf_length, hs4]; exact countBody_len way HM.out.1 HM.out.2 HN.out.1 HN.out.2
  clear hs4 hb
  obtain ⟨hlt, z0, z1, z2, z3⟩ := hc
  have hz4a : ¬ 9223372036854775807 < 2 + s4.size := by omega
  have hz4b : ¬ 9223372036854775807 < 2 + s4.size + 1 := by omega
  go_wp2_with fail
  refine (marks_call _ (by simp only [ByteArray.size_append]; show 2 + s4.size + 1 ≤ _; omega)).mono ?_; rintro e w5 ⟨⟨v5, rfl, hm5⟩, hb5⟩
  have HC5 := Lib.hid (HC.out.below hb5)
  have B5 := Lib.hid (HB.out.trans (hb5.mono HB.out.size))
  have HM5 := Lib.hid (ownsRow_mono hm5 HB.out.size)
  clear hb5 hm5 z0 z1 z2 z3 hlt HC
  obtain ⟨hlt, z0, z1, z2, z3⟩ := HC5.out
  go_upto_if 38 with fail
  go_cut [6] (fun mv wd => (∃ s, textM s = (countB ere (countBody m n way)).map mk ∧ Mks wd w.heap.size mv (textM s)) ∧ Below w.heap.size w wd ∧ CntAt wd w.heap.size ere m n way)
  case first =>
    cases ere with
    | true =>
      go_wp2_with fail
      go_meet
      exact ⟨⟨_, by rw [textM_mk, bytesOf_append, bytesOf_append, HS4.out, List.append_assoc]; rfl, HM5.out⟩, B5.out, HC5.out⟩
    | false =>
      have hz4c : ¬ 9223372036854775807 < 3 + s4.size := by omega
      have hz4d : ¬ 9223372036854775807 < 3 + s4.size + 2 := by omega
      go_wp2_with fail
      refine (marks_call _ (by simp only [ByteArray.size_append]; show 3 + s4.size + 2 ≤ _; omega)).mono ?_; rintro e w6 ⟨⟨v6, rfl, hm6⟩, hb6⟩
      have HC6 := Lib.hid (HC5.out.below hb6)
      have B6 := Lib.hid (B5.out.trans (hb6.mono B5.out.size))
      have HM6 := Lib.hid (ownsRow_mono hm6 B5.out.size)
      clear hb6 hm6
      go_wp2_with fail
      go_meet
      exact ⟨⟨_, by rw [textM_mk, bytesOf_append, bytesOf_append, HS4.out, List.append_assoc]; rfl, HM6.out⟩, B6.out, HC6.out⟩
  case rest =>
  obtain ⟨⟨s6, hs6, hm6⟩, hb6, hc6⟩ := hcut
  have HLAW := Lib.hid (counts_law ere m n way HM.out.1 HM.out.2 HN.out.1 HN.out.2)
  obtain ⟨o6, c6, rfl, ha6⟩ := mks_arg hm6
  rw [hs6] at ha6
  have HLE := Lib.hid hs6
  have HA6 := Lib.hid ha6
  have B6 := Lib.hid hb6
  have HC6 := Lib.hid hc6
  clear hs6 hm6 ha6 hb6 HM5 B5 HC5 HS4 HB hz4 hz4a hz4b z0 z1 z2 z3 hlt
  obtain ⟨hlt, z0, z1, z2, z3⟩ := hc6
  rw [HLE.out]
  generalize (countB ere (countBody m n way)).map mk = L at HA6 HLAW ⊢
  go_wp2_with fail
  refine (parse_call (L := L) HA6.out).mono ?_; rintro e w7 ⟨hr, hb7⟩
  have HC7 := Lib.hid (HC6.out.below hb7)
  have B7 := Lib.hid (B6.out.trans (hb7.mono B6.out.size))
  clear hb7 z0 z1 z2 z3 hlt HC6 B6
  obtain ⟨hlt, z0, z1, z2, z3⟩ := HC7.out
  rw [HLAW.out] at hr
  have HGOOD := Lib.hid (show countGood m n way = (decide (0 ≤ m) && decide (m ≤ 255) && (decide (way = 1) || decide (m ≤ countHi m n way) && decide (countHi m n way ≤ 255))) from rfl)
  have HRB := Lib.hid (show countHi m n way = countHi m n way from rfl)
  generalize countHi m n way = hi at hr HGOOD HRB ⊢
  generalize hgd : countGood m n way = gd at hr HGOOD ⊢
  have HGD := Lib.hid hgd
  clear hgd HLAW HA6 HLE HRB
  cases gd with
  | false =>
    rw [if_neg Bool.false_ne_true] at hr
    obtain rfl : e = _ := hr
    go_upto_region 14 with fail
    go_cut [10] (fun gv wd => gv = .bool false ∧ Below w.heap.size w wd ∧ CntAt wd w.heap.size ere m n way)
    case first =>
      by_cases h1 : 0 ≤ m
      · by_cases h2 : m ≤ 255
        · by_cases hw : way = 1
          · have hw' : (way == 1) = true := by rw [hw]; rfl
            exact absurd HGOOD.out (by simp [h1, h2, hw])
          · have hw' : (way == 1) = false := beq_eq_false_iff_ne.2 hw
            by_cases h3 : m ≤ hi
            · by_cases h4 : hi ≤ 255
              · exact absurd HGOOD.out (by simp [h1, h2, hw, h3, h4])
              · go_wp2_with fail
                go_meet
                exact ⟨rfl, B7.out, HC7.out⟩
            · go_wp2_with fail
              go_meet
              exact ⟨rfl, B7.out, HC7.out⟩
        · go_wp2_with fail
          go_meet
          exact ⟨rfl, B7.out, HC7.out⟩
      · go_wp2_with fail
        go_meet
        exact ⟨rfl, B7.out, HC7.out⟩
    case rest =>
    obtain ⟨rfl, hb8, hc8⟩ := hcut
    have B8 := Lib.hid hb8
    clear hb8 hc8
    go_wp2_with fail
    refine works_call.mono ?_; rintro e w9 ⟨rfl, hb9⟩
    go_wp2_with fail
    go_ret
    exact ⟨rfl, B8.out.trans (hb9.mono B8.out.size)⟩
  | true =>
    rw [if_pos rfl] at hr
    obtain ⟨v7, rfl, hn7⟩ := hr
    have HN7 := Lib.hid hn7
    clear hn7
    go_upto_region 14 with fail
    go_cut [10] (fun gv wd => gv = .bool true ∧ Below w.heap.size w wd ∧ CntAt wd w.heap.size ere m n way ∧ ∃ base, Nds wd base v7 [repN m hi, oneN 97])
    case first =>
      by_cases h1 : 0 ≤ m
      · by_cases h2 : m ≤ 255
        · by_cases hw : way = 1
          · have hw' : (way == 1) = true := by rw [hw]; rfl
            go_wp2_with fail
            go_meet
            exact ⟨rfl, B7.out, HC7.out, _, HN7.out⟩
          · have hw' : (way == 1) = false := beq_eq_false_iff_ne.2 hw
            by_cases h3 : m ≤ hi
            · by_cases h4 : hi ≤ 255
              · go_wp2_with fail
                go_meet
                exact ⟨rfl, B7.out, HC7.out, _, HN7.out⟩
              · exact absurd HGOOD.out (by simp [h1, h2, hw, h3, h4])
            · exact absurd HGOOD.out (by simp [h1, h2, hw, h3])
        · exact absurd HGOOD.out (by simp [h1, h2])
      · exact absurd HGOOD.out (by simp [h1])
    case rest =>
    obtain ⟨rfl, hb8, hc8, base, hn8⟩ := hcut
    have B8 := Lib.hid hb8
    obtain ⟨g, cp, rfl, _, hat⟩ := hn8.at (by simp) (by simp) (by intro x hx; simp at hx; rcases hx with rfl | rfl <;> simp [repN, oneN])
    obtain ⟨m0, _, _, _, _, _, m6, m7, m8⟩ := hat.cells (i := 0) (x := repN m hi) rfl
    have n0 : wc.cell? ⟨g, 0, none⟩ = some (.int .i8 6) := m0
    have n6 : wc.cell? ⟨g, 6, none⟩ = some (.int .i64 m) := m6
    have n7 : wc.cell? ⟨g, 7, none⟩ = some (.int .i64 hi) := m7
    have n8 : wc.cell? ⟨g, 8, none⟩ = some (.int .i64 1) := m8
    have hg := hat.lt
    clear hb8 hc8 hn8 hat m0 m6 m7 m8
    go_wp2_with fail
    refine works_call.mono ?_; rintro e w9 ⟨rfl, hb9⟩
    go_wp2_with fail
    go_ret
    exact ⟨rfl, B8.out.trans (hb9.mono B8.out.size)⟩
end Go.Proofs.YtbdjcmhfcdamiaaDoor
