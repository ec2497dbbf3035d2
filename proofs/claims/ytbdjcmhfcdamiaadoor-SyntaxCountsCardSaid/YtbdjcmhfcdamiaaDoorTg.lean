/- The statements' own check that the program answers at all: works. -/
import Derived.Test.YtbdjcmhfcdamiaaDoorTf
namespace Go.Proofs.YtbdjcmhfcdamiaaDoor
open Go.RowKit

theorem Nds.toV {w : World} {base : Nat} {v : Value} {re : List Nd} (h : Nds w base v re) (hl : re.length ≤ 4294967296) (hk : ∀ x ∈ re, x.kids ≤ re.length) : ∃ oa cp, v = .slice oa re.length cp ∧ NdV w oa re := by
  by_cases hn : 0 < re.length
  · obtain ⟨g, cp, rfl, _, hat⟩ := h.at hn hl hk
    exact ⟨_, _, rfl, hl, fun _ => ⟨g, 0, rfl, hat⟩⟩
  · rcases h.2 with ⟨rfl, h0⟩ | ⟨g, cp, cur, rfl, hg1, hg2, _⟩
    · exact ⟨none, 0, by rw [h0], hl, fun h => absurd h hn⟩
    · exact ⟨_, _, rfl, hl, fun h => absurd h hn⟩

def wk1 : ByteArray := ⟨#[92, 40, 97, 42, 92, 41, 92, 49]⟩
def wk2 : ByteArray := ⟨#[40, 120, 124, 121, 41, 123, 50, 125]⟩
def wk3 : ByteArray := ⟨#[97, 98, 41]⟩
def wr1 : List Nd := [catN 2, groupN 1, repN 0 (-1), oneN 97, refN 1]
def wr2 : List Nd := [repN 2 2, groupN 1, altN 2, oneN 120, oneN 121]
theorem wk1_ok : parseL false (textM wk1) = .ok wr1 := by kernel_rfl
theorem wk2_ok : parseL true (textM wk2) = .ok wr2 := by kernel_rfl
theorem wk3_ok : parseL true (textM wk3) = .error (41, 2) := by kernel_rfl

theorem textM_mem {s : ByteArray} {m : Mk} (h : m ∈ textM s) : m.b < 256 ∧ m.p = false := by
  simp only [textM, bytesOf, List.map_map, List.mem_map] at h
  obtain ⟨b, _, hb⟩ := h
  rw [← hb]
  exact ⟨b.toNat_lt, rfl⟩
theorem markAt_mem {L : List Mk} {i : Nat} (h : i < L.length) : markAt L i ∈ L := by
  simp only [markAt, List.getD_eq_getElem?_getD, List.getElem?_eq_getElem h, Option.getD_some]
  exact List.getElem_mem h
theorem textM_u (s : ByteArray) (i : Nat) (h : i < (textM s).length) : (markAt (textM s) i).b < 256 := (textM_mem (markAt_mem h)).1
/-- Marks and Parse. -/
theorem mks_arg {w : World} {base : Nat} {v : Value} {s : ByteArray} (h : Mks w base v (textM s)) : ∃ o c, v = .slice o (textM s).length c ∧ (0 < (textM s).length → (textM s).length ≤ 4096 → ∃ mb mo, o = some ⟨mb, mo, none⟩ ∧ MkAt w mb mo (textM s)) := by
  obtain ⟨o, c, rfl⟩ := h.form
  refine ⟨o, c, rfl, fun hn hl => ?_⟩
  obtain ⟨g, cp, he, _, hat⟩ := h.at hn hl (textM_u s)
  cases he
  exact ⟨g, 0, rfl, hat⟩

theorem shaped_wr1 : shapedN wr1 = true := by kernel_rfl
theorem refs_wr1 : refsN wr1 = true := by kernel_rfl
theorem shaped_wr2 : shapedN wr2 = true := by kernel_rfl
theorem refs_wr2 : refsN wr2 = false := by kernel_rfl
theorem groups_wr2 : groupsN wr2 = 1 := by kernel_rfl
theorem weight_wr2 : weightN wr2 = 9 := by kernel_rfl
theorem behind_wr2 : behindN wr2 1 = 5 := by kernel_rfl
set_option maxRecDepth 100000 in
set_option maxHeartbeats 1600000 in
theorem works_call {w : World} : Calls Tryd.prog 23 #[] w fun e w' => e = .returned (.bool true) ∧ Below w.heap.size w w' := by
  have k1 := Lib.hid (wk1_ok)
  have k2 := Lib.hid (wk2_ok)
  have k3 := Lib.hid (wk3_ok)
  go_enter Tryd.func23, Tryd.ntmps23
  go_wp2_with fail
  refine (marks_call wk1 (by decide)).mono ?_; rintro e w1 ⟨⟨v1, rfl, hm1⟩, hb1⟩
  obtain ⟨o1, c1, rfl, ha1⟩ := mks_arg hm1
  go_wp2_with fail
  refine (parse_call (L := textM wk1) ha1).mono ?_; rintro e w2 ⟨hr, hb2⟩
  rw [k1.out] at hr
  obtain ⟨p1, rfl, hn1⟩ := hr
  have B2 := Lib.hid (hb1.trans (hb2.mono hb1.size))
  obtain ⟨a1, d1, hp1, hv1⟩ := hn1.toV (by decide) (by decide)
  rw [show wr1.length = 5 from rfl] at hp1
  subst hp1
  have V1 := Lib.hid hv1
  clear ha1 hm1 hb1 hb2 hn1 hv1
  go_wp2_with fail
  refine (marks_call wk2 (by decide)).mono ?_; rintro e w3 ⟨⟨v2, rfl, hm2⟩, hb3⟩
  obtain ⟨o2, c2, rfl, ha2⟩ := mks_arg hm2
  have B3 := Lib.hid (B2.out.trans (hb3.mono B2.out.size))
  have V13 := Lib.hid (V1.out.below hb3)
  clear hm2 hb3
  go_wp2_with fail
  refine (parse_call (L := textM wk2) ha2).mono ?_; rintro e w4 ⟨hr, hb4⟩
  rw [k2.out] at hr
  obtain ⟨p2, rfl, hn2⟩ := hr
  have B4 := Lib.hid (B3.out.trans (hb4.mono B3.out.size))
  have V14 := Lib.hid (V13.out.below hb4)
  obtain ⟨a2, d2, hp2, hv2⟩ := hn2.toV (by decide) (by decide)
  rw [show wr2.length = 5 from rfl] at hp2
  subst hp2
  have V2 := Lib.hid hv2
  clear ha2 hb4 hn2 hv2
  go_wp2_with fail
  refine (marks_call wk3 (by decide)).mono ?_; rintro e w5 ⟨⟨v3, rfl, hm3⟩, hb5⟩
  obtain ⟨o3, c3, rfl, ha3⟩ := mks_arg hm3
  have B5 := Lib.hid (B4.out.trans (hb5.mono B4.out.size))
  have V15 := Lib.hid (V14.out.below hb5)
  have V25 := Lib.hid (V2.out.below hb5)
  clear hm3 hb5
  go_wp2_with fail
  refine (parse_call (L := textM wk3) ha3).mono ?_; rintro e w6 ⟨hr, hb6⟩
  rw [k3.out] at hr
  simp only [ParR] at hr
  subst hr
  have B6 := Lib.hid (B5.out.trans (hb6.mono B5.out.size))
  have V16 := Lib.hid (V15.out.below hb6)
  have V26 := Lib.hid (V25.out.below hb6)
  clear ha3 hb6
  go_wp2_with fail
  refine (shaped_call (re := wr1) (cap := d1) V16.out).mono ?_; rintro e w7 ⟨rfl, hb7⟩
  rw [shaped_wr1]
  have B7 := Lib.hid (B6.out.trans (hb7.mono B6.out.size))
  have V17 := Lib.hid (V16.out.below hb7)
  have V27 := Lib.hid (V26.out.below hb7)
  clear hb7
  go_wp2_with fail
  refine (refs_call (re := wr1) (cap := d1) V17.out).mono ?_; rintro e w8 ⟨rfl, hb8⟩
  rw [refs_wr1]
  have B8 := Lib.hid (B7.out.trans (hb8.mono B7.out.size))
  have V28 := Lib.hid (V27.out.below hb8)
  clear hb8
  go_wp2_with fail
  refine (refs_call (re := wr2) (cap := d2) V28.out).mono ?_; rintro e w9 ⟨rfl, hb9⟩
  rw [refs_wr2]
  have B9 := Lib.hid (B8.out.trans (hb9.mono B8.out.size))
  have V29 := Lib.hid (V28.out.below hb9)
  clear hb9
  go_wp2_with fail
  refine (groups_call (re := wr2) (cap := d2) V29.out).mono ?_; rintro e wa ⟨rfl, hba⟩
  rw [groups_wr2]
  have Ba := Lib.hid (B9.out.trans (hba.mono B9.out.size))
  have V2a := Lib.hid (V29.out.below hba)
  clear hba
  go_wp2_with fail
  refine (weight_call (re := wr2) (cap := d2) V2a.out).mono ?_; rintro e wb ⟨rfl, hbb⟩
  rw [weight_wr2]
  have Bb := Lib.hid (Ba.out.trans (hbb.mono Ba.out.size))
  have V2b := Lib.hid (V2a.out.below hbb)
  clear hbb
  go_wp2_with fail
  refine (behind_call (re := wr2) (cap := d2) 1 V2b.out).mono ?_; rintro e wc ⟨rfl, hbc⟩
  rw [behind_wr2]
  have Bc := Lib.hid (Bb.out.trans (hbc.mono Bb.out.size))
  have V2c := Lib.hid (V2b.out.below hbc)
  clear hbc
  obtain ⟨nb, no, hoa, hat⟩ := V2c.out.at_ (by decide)
  subst hoa
  have n0 := (hat.cells (i := 0) (x := repN 2 2) rfl).1
  have nl := hat.lt
  simp only [Nat.zero_mul, Nat.add_zero, repN] at n0
  clear hat
  go_wp2_with fail
  go_ret
  exact ⟨rfl, Bc.out⟩
end Go.Proofs.YtbdjcmhfcdamiaaDoor
