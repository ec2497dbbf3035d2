/- Parts: Ky Ef. -/
import Derived.Test.YtbdjcmhfcdamiaaDoorQ26
import Derived.Test.YtbdjcmhfcdamiaaDoorQ16
import Derived.Test.YtbdjcmhfcdamiaaDoorQ15
import Derived.Test.YtbdjcmhfcdamiaaDoorQ20
import Derived.Test.YtbdjcmhfcdamiaaDoorQ14
import Derived.Lib.SlBytesConst
/- The contract of galleylaw06's lives. -/
namespace Go.Proofs.YtbdjcmhfcdamiaaDoor
open Go.RowKit

def liveRe : List Nd := [⟨6, ⟨0, 0, 0, 0⟩, 0, 0, -1, 1⟩, ⟨1, ⟨0, 8589934592, 0, 0⟩, 0, 0, 0, 0⟩]
theorem live_shaped : shapedN liveRe = true := by decide +kernel
theorem live_spell : spellN false liveRe = some [97, 42] := by decide +kernel
theorem live_text : textL 47 [⟨97, false⟩, ⟨47, true⟩] = some [97, 92, 47] := by decide +kernel
theorem MkIn.made {W : World} {g : Nat} {L : List Mk} (h : W.heap[g]? = some (.cells (mksC L).toArray 33 (0, 0))) (hl : L.length ≤ 1073741824) (hu : ∀ m ∈ L, m.b < 256) : MkIn W (some ⟨g, 0, none⟩) L :=
  ⟨hl, fun _ => ⟨g, 0, rfl, (Array.getElem?_eq_some_iff.1 h).1, fun i m hi => by
    have hc := mksC_at L i (List.getElem?_eq_some_iff.1 hi).1
    have hm : markAt L i = m := by unfold markAt; rw [List.getD_eq_getElem?_getD, hi]; rfl
    rw [hm] at hc
    have hcell : ∀ j u, (mksC L)[j]? = some u → W.cell? ⟨g, j, none⟩ = some u := fun j u hj => by
      simp [World.cell?, h, hj]
    refine ⟨?_, ?_, hu m (List.mem_of_getElem? hi)⟩
    · rw [Nat.zero_add]; exact hcell _ _ hc.1
    · rw [Nat.zero_add]; exact hcell _ _ hc.2⟩⟩
theorem BtIn.made {W : World} {g : Nat} {L : List Nat} {fz : Nat × Nat} (h : W.heap[g]? = some (.cells (u8s L).toArray 5 fz)) (hl : L.length ≤ 4294967296) : BtIn W (some ⟨g, 0, none⟩) L :=
  ⟨hl, fun _ => ⟨g, 0, rfl, (Array.getElem?_eq_some_iff.1 h).1, fun i b hi => by
    rw [Nat.zero_add]
    simp [World.cell?, h, u8s, hi]⟩⟩
theorem live_nodes {W : World} {g : Nat} (h : W.heap[g]? = some (.cells (liveRe.flatMap fun x => (ndCells x).toList).toArray 77 (0, 0))) : NdV W (some ⟨g, 0, none⟩) liveRe :=
  ⟨by decide, fun _ => ⟨g, 0, rfl, (Array.getElem?_eq_some_iff.1 h).1, by decide, fun i hi j => by
    by_cases hj : 9 ≤ j
    · exact .inr hj
    left
    have h2 : i < 2 := hi
    rcases (show i = 0 ∨ i = 1 by omega) with rfl | rfl <;> rcases (show j = 0 ∨ j = 1 ∨ j = 2 ∨ j = 3 ∨ j = 4 ∨ j = 5 ∨ j = 6 ∨ j = 7 ∨ j = 8 by omega) with rfl | rfl | rfl | rfl | rfl | rfl | rfl | rfl | rfl <;> simp [World.cell?, h, liveRe, ndCells], by decide⟩⟩
set_option maxRecDepth 100000 in
set_option maxHeartbeats 6400000 in
theorem lives_call {w : World} (ht : Tabs w) : Calls Tryd.prog 8 #[] w (fun e w' => e = .returned (.bool true) ∧ Below w.heap.size w w') := by
  have HT := Lib.hid ht
  have hB : Below w.heap.size w ((w.alloc (.cells #[.int .u64 0, .int .u64 8589934592, .int .u64 0, .int .u64 0] 75)).alloc (.cells #[.int .i8 6, .int .u64 0, .int .u64 0, .int .u64 0, .int .u64 0, .int .i64 0, .int .i64 0, .int .i64 (-1), .int .i64 1, .int .i8 1, .int .u64 0, .int .u64 8589934592, .int .u64 0, .int .u64 0, .int .i64 0, .int .i64 0, .int .i64 0, .int .i64 0] 77)) := ((Below.refl _ w).alloc (Nat.le_refl _) _).alloc (by simp) _
  have HN := Lib.hid (show NdV ((w.alloc (.cells #[.int .u64 0, .int .u64 8589934592, .int .u64 0, .int .u64 0] 75)).alloc (.cells #[.int .i8 6, .int .u64 0, .int .u64 0, .int .u64 0, .int .u64 0, .int .i64 0, .int .i64 0, .int .i64 (-1), .int .i64 1, .int .i8 1, .int .u64 0, .int .u64 8589934592, .int .u64 0, .int .u64 0, .int .i64 0, .int .i64 0, .int .i64 0, .int .i64 0] 77)) (some ⟨w.heap.size + 1, 0, none⟩) liveRe from live_nodes (by have h := heap_alloc_new (w.alloc (.cells #[.int .u64 0, .int .u64 8589934592, .int .u64 0, .int .u64 0] 75)) (.cells (liveRe.flatMap fun x => (ndCells x).toList).toArray 77); rw [World.size_alloc] at h; exact h))
  have HT1 := Lib.hid (ht.below hB)
  have HB := Lib.hid hB
  clear ht hB
  go_enter Tryd.func8, Tryd.ntmps8
  go_wp2_with fail
  refine (print_call (cap := 2) HN.out HT1.out false).mono ?_
  rintro e w1 ⟨hb1, hr1⟩
  rw [if_neg (by rw [live_shaped]; decide), live_spell] at hr1
  obtain ⟨v1, rfl, hm1⟩ := hr1
  have HB1 := Lib.hid (HB.out.trans (hb1.mono HB.out.size))
  obtain ⟨oa1, cap1, hv1, hk1⟩ := MkIn.of_own hm1 (by decide) (by decide)
  have hv1' : v1 = .slice oa1 2 cap1 := hv1
  subst hv1'
  have HK1 := Lib.hid hk1
  clear hb1 hm1 HN HB HT1 hv1 hk1
  have HA1 := Lib.hid (MkIn.made (W := w1.alloc (.cells #[.int .u8 97, .bool false, .int .u8 47, .bool true] 33)) (g := w1.heap.size) (L := [⟨97, false⟩, ⟨47, true⟩]) (heap_alloc_new _ _) (by decide) (by decide))
  have hb1 : Below w1.heap.size w1 (w1.alloc (.cells #[.int .u8 97, .bool false, .int .u8 47, .bool true] 33)) := (Below.refl _ _).alloc (Nat.le_refl _) _
  have HB2 := Lib.hid (HB1.out.trans (hb1.mono HB1.out.size))
  have HK2 := Lib.hid (HK1.out.below hb1)
  clear hb1 HB1 HK1
  go_wp2_with fail
  refine (text_call (cap := 2) HA1.out 47 (by omega)).mono ?_
  rintro e w2 ⟨hb2, hr2⟩
  rw [live_text] at hr2
  obtain ⟨v2, rfl, hm2⟩ := hr2
  obtain ⟨oa2, cap2, hv2, hk2⟩ := BtIn.of_own (L := [97, 92, 47]) hm2 (by decide)
  have hv2' : v2 = .slice oa2 3 cap2 := hv2
  subst hv2'
  have HB3 := Lib.hid (HB2.out.trans (hb2.mono HB2.out.size))
  have HK3 := Lib.hid (HK2.out.below hb2)
  have HL3 := Lib.hid hk2
  clear hb2 hm2 hv2 hk2 HA1 HB2 HK2
  have HA2 := Lib.hid (MkIn.made (W := w2.alloc (.cells #[.int .u8 97, .bool false, .int .u8 42, .bool false] 33)) (g := w2.heap.size) (L := bm [97, 42]) (heap_alloc_new _ _) (by decide) (by decide))
  have hb3 : Below w2.heap.size w2 (w2.alloc (.cells #[.int .u8 97, .bool false, .int .u8 42, .bool false] 33)) := (Below.refl _ _).alloc (Nat.le_refl _) _
  have HB4 := Lib.hid (HB3.out.trans (hb3.mono HB3.out.size))
  have HK4 := Lib.hid (HK3.out.below hb3)
  have HL4 := Lib.hid (HL3.out.below hb3)
  clear hb3 HB3 HK3 HL3
  go_wp2_with fail
  refine (eqMarks_call (ca := cap1) (cb := 2) HK4.out HA2.out).mono ?_
  rintro e w3 ⟨rfl, hb4⟩
  rw [show decide (bm [97, 42] = bm [97, 42]) = true by decide]
  have HB5 := Lib.hid (HB4.out.trans (hb4.mono HB4.out.size))
  have HL5 := Lib.hid (HL4.out.below hb4)
  clear hb4 HA2 HB4 HK4 HL4
  have HA3 := Lib.hid (BtIn.made (W := w3.alloc (.cells #[.int .u8 97, .int .u8 92, .int .u8 47] 5 (3, 4))) (g := w3.heap.size) (L := [97, 92, 47]) (heap_alloc_new _ _) (by decide))
  have hb5 : Below w3.heap.size w3 (w3.alloc (.cells #[.int .u8 97, .int .u8 92, .int .u8 47] 5 (3, 4))) := (Below.refl _ _).alloc (Nat.le_refl _) _
  have HB6 := Lib.hid (HB5.out.trans (hb5.mono HB5.out.size))
  have HL6 := Lib.hid (HL5.out.below hb5)
  clear hb5 HB5 HL5
  have hcv := Lib.run_convert_bytes_const (P := Tryd.prog) w3 26 5 #[.int .u8 97, .int .u8 92, .int .u8 47] 3 3 Tryd.underlying26 Tryd.underlying5
  rw [show (#[Value.int .u8 97, .int .u8 92, .int .u8 47] : Array Value).size = 3 from rfl] at hcv
  go_wp2_with fail
  refine (eqBytes_call (ca := cap2) (cb := 3) HL6.out HA3.out).mono ?_
  rintro e w4 ⟨rfl, hb6⟩
  rw [show decide (([97, 92, 47] : List Nat) = [97, 92, 47]) = true by decide]
  have HB7 := Lib.hid (HB6.out.trans (hb6.mono HB6.out.size))
  clear hb6
  go_wp2_with fail
  go_ret
  exact ⟨rfl, HB7.out⟩
end Go.Proofs.YtbdjcmhfcdamiaaDoor

/- The walk of SpellBack. -/
namespace Go.Proofs.YtbdjcmhfcdamiaaDoor
open Go.RowKit

set_option maxRecDepth 100000 in
set_option maxHeartbeats 1600000 in
theorem longBack_call {re : List Nd} {oa : Option Addr} {cap : Nat} {w : World} (hv : NdW w oa cap re) (z : re.length * 72 ≤ 140737488351232) :
    Calls Tryd.prog 24 #[.slice oa re.length cap] w fun e w' => (∃ b, e = .returned (.bool b) ∧ (b = false → re.length ≤ 2147483647)) ∧ Below w.heap.size w w' := by
  have HV := Lib.hid hv
  have HZ := Lib.hid z
  clear hv z
  go_enter Tryd.func24, Tryd.ntmps24
  go_wp2_with fail
  refine (long_call _).mono ?_; rintro e wa ⟨rfl, rfl⟩
  by_cases q : (2147483647 : Int) < (re.length : Int)
  · rw [decide_eq_true q]
    clear q
    go_wp2_with fail
    go_ret
    exact ⟨⟨_, rfl, fun h => by cases h⟩, Below.refl _ _⟩
  · rw [decide_eq_false q]
    have HQ := Lib.hid (show re.length ≤ 2147483647 by omega)
    clear q
    go_wp2_with fail
    refine (beyond_call HV.out HZ.out).mono ?_; rintro e w1 ⟨⟨b, rfl⟩, hb1⟩
    have HB := Lib.hid hb1
    clear hb1
    go_wp2_with fail
    go_ret
    exact ⟨⟨_, rfl, fun _ => HQ.out⟩, HB.out⟩
theorem bm_u {s : List Nat} (h : Okb s) : ∀ i, i < (bm s).length → (markAt (bm s) i).b < 256 := fun i hi => by
  rw [List.length_map] at hi
  have e : markAt (bm s) i = mk s[i] := by simp [markAt, List.getD_eq_getElem?_getD, hi]
  rw [e]
  exact (h _ (List.getElem_mem hi)).2
theorem bm_at {s : List Nat} (h : Okb s) {i : Nat} (hi : i < s.length) : markAt (bm s) i = mk s[i] ∧ s[i] ≠ 10 ∧ s[i] < 256 :=
  ⟨by simp [markAt, List.getD_eq_getElem?_getD, hi], h _ (List.getElem_mem hi)⟩
set_option maxRecDepth 100000 in
set_option maxHeartbeats 12800000 in
theorem backs_all {w : World} {re : List Nd} {L : List Mk} {oa ob : Option Addr} {ca cb : Nat} (ere : Bool) (hv : NdW w oa ca re) (z : re.length * 72 ≤ 140737488351232) (hm : MkV w ob cb L) (ht : Tabs w) :
    Calls Tryd.prog 6 #[.bool ere, .slice oa re.length ca, .slice ob L.length cb] w fun e w' => e = .returned (.bool true) ∧ Below w.heap.size w w' := by
  have HT := Lib.hid ht
  have HV := Lib.hid hv
  have HM := Lib.hid hm
  have HLO := Lib.hid (longBack_call hv z)
  have HKS : Hid (∀ x ∈ re, x.kids ≤ 9223372036854775807) := Lib.hid fun x hx => (hv.wf x hx).2.2.2.2.2
  clear ht hv hm z
  go_enter Tryd.func6, Tryd.ntmps6
  go_wp2_with fail
  refine HLO.out.mono ?_; rintro e w0 ⟨⟨b, rfl, hlen⟩, hb0⟩
  have HB0 := Lib.hid hb0
  have HLEN := Lib.hid hlen
  clear hb0 hlen HLO
  cases b with
  | true =>
    go_wp2_with fail
    go_ret
    exact ⟨rfl, HB0.out⟩
  | false =>
  have HLE := Lib.hid (HLEN.out rfl)
  clear HLEN
  go_wp2_with fail
  refine (long_call _).mono ?_; rintro e wa ⟨rfl, rfl⟩
  by_cases q : (2147483647 : Int) < (L.length : Int)
  · rw [decide_eq_true q]
    clear q
    go_wp2_with fail
    go_ret
    exact ⟨rfl, HB0.out⟩
  rw [decide_eq_false q]
  clear q
  have HV0 := Lib.hid (HV.out.below HB0.out)
  have HM0 := Lib.hid (HM.out.below HB0.out)
  clear HV HM
  go_wp2_with fail
  refine (lives_call (HT.out.below HB0.out)).mono ?_; rintro e w1 ⟨rfl, hb1⟩
  have HB1 := Lib.hid (HB0.out.trans (hb1.mono HB0.out.size))
  have HV1 := Lib.hid (HV0.out.below hb1)
  have HM1 := Lib.hid (HM0.out.below hb1)
  clear hb1 HV0 HB0 HM0
  go_wp2_with fail
  refine (print_call (cap := ca) (HV1.out.toV (by have := HLE.out; omega)) (HT.out.below HB1.out) ere).mono ?_; rintro e w2 ⟨hb2, hr2⟩
  have HB2 := Lib.hid (HB1.out.trans (hb2.mono HB1.out.size))
  have HV2 := Lib.hid (HV1.out.below hb2)
  have HM2 := Lib.hid (HM1.out.below hb2)
  clear hb2 HV1 HB1 HM1
  cases hsh : shapedN re with
  | false =>
    rw [if_pos hsh] at hr2
    subst hr2
    have HSH := Lib.hid hsh
    clear hsh
    go_wp2_with fail
    refine (rshaped_call (cap := ca) HV2.out.op (HV2.out.toV (by have := HLE.out; omega))).mono ?_; rintro e w3 ⟨rfl, hb3⟩
    rw [HSH.out]
    have HB5 := Lib.hid (HB2.out.trans (hb3.mono HB2.out.size))
    have HM5 := Lib.hid (HM2.out.below hb3)
    clear hb3 HV2 HB2 HM2
    go_wp2_with fail
    refine (parse_call (ere := ere) (cap := cb) HM5.out.arg).mono ?_; rintro e wp ⟨hrp, hbp⟩
    have HBp := Lib.hid (HB5.out.trans (hbp.mono HB5.out.size))
    have HMp := Lib.hid (HM5.out.below hbp)
    clear hbp HB5 HM5
    cases hp : parseL ere L with
    | error q =>
      obtain ⟨e0, i0⟩ := q
      rw [hp] at hrp
      simp only [ParR] at hrp
      subst hrp
      have hbad := parseL_bad HMp.out.u hp
      have hne : ((e0 : Int) != 0) = true := by rw [bne_iff_ne]; have := hbad.1; omega
      clear hp hbad
      go_wp2_with fail
      go_ret
      exact ⟨rfl, HBp.out⟩
    | ok t =>
      rw [hp] at hrp
      obtain ⟨vt, rfl, hnt⟩ := hrp
      obtain ⟨hfl, hfk, _⟩ := parseL_fit HMp.out.u hp
      have HFL := Lib.hid hfl
      have HFK : Hid (∀ x ∈ t, x.kids ≤ 9223372036854775807) := Lib.hid fun x hx => by have := hfk x hx; omega
      have HST := Lib.hid (parseL_says hp).1
      have HPS := Lib.hid (parse_spell HMp.out.u hp)
      obtain ⟨ot, ct, rfl, _, hvt⟩ := hnt.toV2 (by omega) HFK.out
      have HVt := Lib.hid hvt
      clear hnt hvt hfl hfk hp
      go_wp2_with fail
      refine (print_call (cap := ct) HVt.out (HT.out.below HBp.out) ere).mono ?_; rintro e wq ⟨hbq, hrq⟩
      have HBq := Lib.hid (HBp.out.trans (hbq.mono HBp.out.size))
      have HVq := Lib.hid (HVt.out.below hbq)
      rw [if_neg (by rw [HST.out]; decide)] at hrq
      clear hbq HBp HVt
      cases hq : spellN ere t with
      | none =>
        have hl256 : (256 : Int) < (L.length : Int) := by
          rcases HPS.out with ⟨s, h⟩ | h
          · rw [hq] at h; cases h
          · omega
        rw [hq] at hrq
        simp only at hrq
        subst hrq
        clear hq
        go_wp2_with fail
        go_ret
        exact ⟨rfl, HBq.out⟩
      | some sq =>
        rw [hq] at hrq
        simp only at hrq
        obtain ⟨vq, rfl, hmq⟩ := hrq
        obtain ⟨hokq, hslq⟩ := spellN_okb hq
        have hparq := spell_parse HST.out hq
        obtain ⟨oq, cq, rfl, hwq⟩ := hmq.toV (bm_u hokq)
        have hPQ := parse_call (ere := ere) (cap := cq) hwq.arg
        rw [hparq] at hPQ
        rw [List.length_map] at hPQ ⊢
        have HPQ := Lib.hid hPQ
        clear hmq hwq hparq hq hokq hPQ
        go_wp2_with fail
        refine HPQ.out.mono ?_; rintro e wu ⟨⟨vu, rfl, hnu⟩, hbu⟩
        obtain ⟨ou, cu, rfl, _, hvu⟩ := hnu.toV2 (by have := HFL.out; omega) HFK.out
        have HVu := Lib.hid hvu
        have HBu := Lib.hid (HBq.out.trans (hbu.mono HBq.out.size))
        have HVr := Lib.hid (HVq.out.below hbu)
        clear hnu hvu hbu HBq HVq HPQ
        go_wp2_with fail
        refine (eqNodes_call (ca := cu) (cb := ct) HVu.out HVr.out).mono ?_; rintro e wz ⟨rfl, hbz⟩
        rw [show decide (t = t) = true by simp]
        have HBz := Lib.hid (HBu.out.trans (hbz.mono HBu.out.size))
        clear hbz
        go_wp2_with fail
        go_ret
        exact ⟨rfl, HBz.out⟩
  | true =>
    rw [if_neg (by rw [hsh]; decide)] at hr2
    have HSH := Lib.hid hsh
    clear hsh
    cases hsp : spellN ere re with
    | none =>
      rw [hsp] at hr2
      simp only at hr2
      subst hr2
      clear hsp
      go_wp2_with fail
      refine (rshaped_call (cap := ca) HV2.out.op (HV2.out.toV (by have := HLE.out; omega))).mono ?_; rintro e w3 ⟨rfl, hb3⟩
      rw [HSH.out]
      have HB5 := Lib.hid (HB2.out.trans (hb3.mono HB2.out.size))
      have HM5 := Lib.hid (HM2.out.below hb3)
      clear hb3 HV2 HB2 HM2
      go_wp2_with fail
      refine (parse_call (ere := ere) (cap := cb) HM5.out.arg).mono ?_; rintro e wp ⟨hrp, hbp⟩
      have HBp := Lib.hid (HB5.out.trans (hbp.mono HB5.out.size))
      have HMp := Lib.hid (HM5.out.below hbp)
      clear hbp HB5 HM5
      cases hp : parseL ere L with
      | error q =>
        obtain ⟨e0, i0⟩ := q
        rw [hp] at hrp
        simp only [ParR] at hrp
        subst hrp
        have hbad := parseL_bad HMp.out.u hp
        have hne : ((e0 : Int) != 0) = true := by rw [bne_iff_ne]; have := hbad.1; omega
        clear hp hbad
        go_wp2_with fail
        go_ret
        exact ⟨rfl, HBp.out⟩
      | ok t =>
        rw [hp] at hrp
        obtain ⟨vt, rfl, hnt⟩ := hrp
        obtain ⟨hfl, hfk, _⟩ := parseL_fit HMp.out.u hp
        have HFL := Lib.hid hfl
        have HFK : Hid (∀ x ∈ t, x.kids ≤ 9223372036854775807) := Lib.hid fun x hx => by have := hfk x hx; omega
        have HST := Lib.hid (parseL_says hp).1
        have HPS := Lib.hid (parse_spell HMp.out.u hp)
        obtain ⟨ot, ct, rfl, _, hvt⟩ := hnt.toV2 (by omega) HFK.out
        have HVt := Lib.hid hvt
        clear hnt hvt hfl hfk hp
        go_wp2_with fail
        refine (print_call (cap := ct) HVt.out (HT.out.below HBp.out) ere).mono ?_; rintro e wq ⟨hbq, hrq⟩
        have HBq := Lib.hid (HBp.out.trans (hbq.mono HBp.out.size))
        have HVq := Lib.hid (HVt.out.below hbq)
        rw [if_neg (by rw [HST.out]; decide)] at hrq
        clear hbq HBp HVt
        cases hq : spellN ere t with
        | none =>
          have hl256 : (256 : Int) < (L.length : Int) := by
            rcases HPS.out with ⟨s, h⟩ | h
            · rw [hq] at h; cases h
            · omega
          rw [hq] at hrq
          simp only at hrq
          subst hrq
          clear hq
          go_wp2_with fail
          go_ret
          exact ⟨rfl, HBq.out⟩
        | some sq =>
          rw [hq] at hrq
          simp only at hrq
          obtain ⟨vq, rfl, hmq⟩ := hrq
          obtain ⟨hokq, hslq⟩ := spellN_okb hq
          have hparq := spell_parse HST.out hq
          obtain ⟨oq, cq, rfl, hwq⟩ := hmq.toV (bm_u hokq)
          have hPQ := parse_call (ere := ere) (cap := cq) hwq.arg
          rw [hparq] at hPQ
          rw [List.length_map] at hPQ ⊢
          have HPQ := Lib.hid hPQ
          clear hmq hwq hparq hq hokq hPQ
          go_wp2_with fail
          refine HPQ.out.mono ?_; rintro e wu ⟨⟨vu, rfl, hnu⟩, hbu⟩
          obtain ⟨ou, cu, rfl, _, hvu⟩ := hnu.toV2 (by have := HFL.out; omega) HFK.out
          have HVu := Lib.hid hvu
          have HBu := Lib.hid (HBq.out.trans (hbu.mono HBq.out.size))
          have HVr := Lib.hid (HVq.out.below hbu)
          clear hnu hvu hbu HBq HVq HPQ
          go_wp2_with fail
          refine (eqNodes_call (ca := cu) (cb := ct) HVu.out HVr.out).mono ?_; rintro e wz ⟨rfl, hbz⟩
          rw [show decide (t = t) = true by simp]
          have HBz := Lib.hid (HBu.out.trans (hbz.mono HBu.out.size))
          clear hbz
          go_wp2_with fail
          go_ret
          exact ⟨rfl, HBz.out⟩
    | some s =>
      rw [hsp] at hr2
      simp only at hr2
      obtain ⟨v2, rfl, hm2⟩ := hr2
      obtain ⟨hok, hsl⟩ := spellN_okb hsp
      have hpar := spell_parse HSH.out hsp
      obtain ⟨o2, c2, rfl, hw2⟩ := hm2.toV (bm_u hok)
      rw [List.length_map] at *
      have HW2 := Lib.hid hw2
      have HPAR := Lib.hid hpar
      have HOK := Lib.hid hok
      clear hm2 hw2 hpar hsp hok
      go_wp2_with fail
      refine (rshaped_call (cap := ca) HV2.out.op (HV2.out.toV (by have := HLE.out; omega))).mono ?_; rintro e w3 ⟨rfl, hb3⟩
      rw [HSH.out]
      have HB3 := Lib.hid (HB2.out.trans (hb3.mono HB2.out.size))
      have HM3 := Lib.hid (HM2.out.below hb3)
      have HV3 := Lib.hid (HV2.out.below hb3)
      have HW3 := Lib.hid (HW2.out.below hb3)
      have hPC := parse_call (ere := ere) (cap := c2) HW3.out.arg
      rw [HPAR.out, List.length_map] at hPC
      have HPC := Lib.hid hPC
      clear hb3 HV2 HB2 HM2 HW2 hPC
      go_wp2_with fail
      refine HPC.out.mono ?_; rintro e w4 ⟨⟨v4, rfl, hn4⟩, hb4⟩
      obtain ⟨o4, c4, rfl, _, hv4⟩ := hn4.toV2 (by have := HLE.out; omega) HKS.out
      have HN4 := Lib.hid hv4
      have HB4 := Lib.hid (HB3.out.trans (hb4.mono HB3.out.size))
      have HM4 := Lib.hid (HM3.out.below hb4)
      have HV4 := Lib.hid (HV3.out.below hb4)
      have HW4 := Lib.hid (HW3.out.below hb4)
      clear hn4 hv4 hb4 HV3 HB3 HM3 HW3 HPC
      go_wp2_with fail
      refine (eqNodes_call (ca := c4) (cb := ca) HN4.out (HV4.out.toV (by have := HLE.out; omega))).mono ?_; rintro e w5 ⟨rfl, hb5⟩
      rw [show decide (re = re) = true by simp]
      have HB5 := Lib.hid (HB4.out.trans (hb5.mono HB4.out.size))
      have HM5 := Lib.hid (HM4.out.below hb5)
      have HW5 := Lib.hid (HW4.out.below hb5)
      clear hb5 HV4 HB4 HM4 HW4 HN4
      go_wp2_with fail
      go_loopg [13] s.length (fun n iv wr => ∃ e : Nat, iv = .int .i64 (e : Nat) ∧ n = s.length - e ∧ e ≤ s.length ∧ Below w5.heap.size w5 wr)
      case atStart => exact ⟨0, rfl, by omega, by omega, Below.refl _ _⟩
      case round =>
        obtain ⟨e, rfl, hg, he, hbr⟩ := hrel
        have HG := Lib.hid hg
        have HBR := Lib.hid hbr
        clear hg hbr
        by_cases hlt : e < s.length
        · have hlt' : (e : Int) < (s.length : Int) := by omega
          obtain ⟨mb, mo, rfl, hmb, hcs⟩ := (HW5.out.below HBR.out).at_ (by rw [List.length_map]; omega)
          obtain ⟨z0, z1⟩ := hcs e (by rw [List.length_map]; omega)
          obtain ⟨hma, h10, h256⟩ := bm_at HOK.out hlt
          rw [hma] at z0 z1
          generalize s[e] = x at z0 h10 h256
          have z0' : wr.cell? ⟨mb, mo + e * 2, none⟩ = some (.int .u8 (x : Nat)) := z0
          have z1' : wr.cell? ⟨mb, mo + e * 2 + 1, none⟩ = some (.bool false) := z1
          clear z0 z1 hcs hma
          have h10' : ((x : Int) == 10) = false := beq_eq_false_iff_ne.2 (by omega)
          go_wp2_with fail
          go_roundg (s.length - (e + 1))
          case measure => have := HG.out; omega
          case rel => exact ⟨e + 1, by go_num, rfl, by omega, HBR.out⟩
        · have hlt' : ¬ (e : Int) < (s.length : Int) := by omega
          obtain ⟨w6, rfl⟩ : ∃ w6 : World, w6 = wr := ⟨_, rfl⟩
          have HB6 := Lib.hid (HB5.out.trans (HBR.out.mono HB5.out.size))
          have HM6 := Lib.hid (HM5.out.below HBR.out)
          clear HB5 HM5 HW5 HBR
          obtain ⟨HB5, HM5⟩ : Hid (Below w.heap.size w w6) ∧ Hid (MkV w6 ob cb L) := ⟨HB6, HM6⟩
          clear HB6 HM6
          go_wp2_with fail
          refine (parse_call (ere := ere) (cap := cb) HM5.out.arg).mono ?_; rintro e wp ⟨hrp, hbp⟩
          have HBp := Lib.hid (HB5.out.trans (hbp.mono HB5.out.size))
          have HMp := Lib.hid (HM5.out.below hbp)
          clear hbp HB5 HM5
          cases hp : parseL ere L with
          | error q =>
            obtain ⟨e0, i0⟩ := q
            rw [hp] at hrp
            simp only [ParR] at hrp
            subst hrp
            have hbad := parseL_bad HMp.out.u hp
            have hne : ((e0 : Int) != 0) = true := by rw [bne_iff_ne]; have := hbad.1; omega
            clear hp hbad
            go_wp2_with fail
            go_ret
            exact ⟨rfl, HBp.out⟩
          | ok t =>
            rw [hp] at hrp
            obtain ⟨vt, rfl, hnt⟩ := hrp
            obtain ⟨hfl, hfk, _⟩ := parseL_fit HMp.out.u hp
            have HFL := Lib.hid hfl
            have HFK : Hid (∀ x ∈ t, x.kids ≤ 9223372036854775807) := Lib.hid fun x hx => by have := hfk x hx; omega
            have HST := Lib.hid (parseL_says hp).1
            have HPS := Lib.hid (parse_spell HMp.out.u hp)
            obtain ⟨ot, ct, rfl, _, hvt⟩ := hnt.toV2 (by omega) HFK.out
            have HVt := Lib.hid hvt
            clear hnt hvt hfl hfk hp
            go_wp2_with fail
            refine (print_call (cap := ct) HVt.out (HT.out.below HBp.out) ere).mono ?_; rintro e wq ⟨hbq, hrq⟩
            have HBq := Lib.hid (HBp.out.trans (hbq.mono HBp.out.size))
            have HVq := Lib.hid (HVt.out.below hbq)
            rw [if_neg (by rw [HST.out]; decide)] at hrq
            clear hbq HBp HVt
            cases hq : spellN ere t with
            | none =>
              have hl256 : (256 : Int) < (L.length : Int) := by
                rcases HPS.out with ⟨s, h⟩ | h
                · rw [hq] at h; cases h
                · omega
              rw [hq] at hrq
              simp only at hrq
              subst hrq
              clear hq
              go_wp2_with fail
              go_ret
              exact ⟨rfl, HBq.out⟩
            | some sq =>
              rw [hq] at hrq
              simp only at hrq
              obtain ⟨vq, rfl, hmq⟩ := hrq
              obtain ⟨hokq, hslq⟩ := spellN_okb hq
              have hparq := spell_parse HST.out hq
              obtain ⟨oq, cq, rfl, hwq⟩ := hmq.toV (bm_u hokq)
              have hPQ := parse_call (ere := ere) (cap := cq) hwq.arg
              rw [hparq] at hPQ
              rw [List.length_map] at hPQ ⊢
              have HPQ := Lib.hid hPQ
              clear hmq hwq hparq hq hokq hPQ
              go_wp2_with fail
              refine HPQ.out.mono ?_; rintro e wu ⟨⟨vu, rfl, hnu⟩, hbu⟩
              obtain ⟨ou, cu, rfl, _, hvu⟩ := hnu.toV2 (by have := HFL.out; omega) HFK.out
              have HVu := Lib.hid hvu
              have HBu := Lib.hid (HBq.out.trans (hbu.mono HBq.out.size))
              have HVr := Lib.hid (HVq.out.below hbu)
              clear hnu hvu hbu HBq HVq HPQ
              go_wp2_with fail
              refine (eqNodes_call (ca := cu) (cb := ct) HVu.out HVr.out).mono ?_; rintro e wz ⟨rfl, hbz⟩
              rw [show decide (t = t) = true by simp]
              have HBz := Lib.hid (HBu.out.trans (hbz.mono HBu.out.size))
              clear hbz
              go_wp2_with fail
              go_ret
              exact ⟨rfl, HBz.out⟩
end Go.Proofs.YtbdjcmhfcdamiaaDoor
