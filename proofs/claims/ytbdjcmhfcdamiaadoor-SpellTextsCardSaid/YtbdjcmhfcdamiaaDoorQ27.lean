/- Parts: Ky Kz. -/
import Derived.Test.YtbdjcmhfcdamiaaDoorQ26
import Derived.Test.YtbdjcmhfcdamiaaDoorQ20
import Derived.Lib.SlBytesConst
/- The contract of galleylaw06's lives. -/
namespace Go.Proofs.YtbdjcmhfcdamiaaDoor
open Go.RowKit

def liveRe : List Nd := [⟨6, ⟨0, 0, 0, 0⟩, 0, 0, -1, 1⟩, ⟨1, ⟨0, 8589934592, 0, 0⟩, 0, 0, 0, 0⟩]
theorem live_shaped : shapedN liveRe = true := by decide +kernel
theorem live_spell : spellN false liveRe = some [97, 42] := by decide +kernel
theorem live_text : textL 47 [⟨97, false⟩, ⟨47, true⟩] = some [97, 92, 47] := by decide +kernel
theorem MkIn.made {W : World} {g : Nat} {L : List Mk} (h : W.heap[g]? = some (.cells (mksC L).toArray 33 (0, 0))) (hl : L.length ≤ 1073741824) (hu : ∀ m ∈ L, m.b < 256) : MkIn W (some ⟨g, 0, none⟩) L :=
  ⟨hl, fun _ => ⟨g, 0, rfl, (Array.getElem?_eq_some_iff.1 h).1, fun i m hi => by
    have hc := mksC_at L i (List.getElem?_eq_some_iff.1 hi).1
    have hm : markAt L i = m := by unfold markAt; rw [List.getD_eq_getElem?_getD, hi]; rfl
    rw [hm] at hc
    have hcell : ∀ j u, (mksC L)[j]? = some u → W.cell? ⟨g, j, none⟩ = some u := fun j u hj => by
      simp [World.cell?, h, hj]
    refine ⟨?_, ?_, hu m (List.mem_of_getElem? hi)⟩
    · rw [Nat.zero_add]; exact hcell _ _ hc.1
    · rw [Nat.zero_add]; exact hcell _ _ hc.2⟩⟩
theorem BtIn.made {W : World} {g : Nat} {L : List Nat} {fz : Nat × Nat} (h : W.heap[g]? = some (.cells (u8s L).toArray 5 fz)) (hl : L.length ≤ 4294967296) : BtIn W (some ⟨g, 0, none⟩) L :=
  ⟨hl, fun _ => ⟨g, 0, rfl, (Array.getElem?_eq_some_iff.1 h).1, fun i b hi => by
    rw [Nat.zero_add]
    simp [World.cell?, h, u8s, hi]⟩⟩
theorem live_nodes {W : World} {g : Nat} (h : W.heap[g]? = some (.cells (liveRe.flatMap fun x => (ndCells x).toList).toArray 77 (0, 0))) : NdV W (some ⟨g, 0, none⟩) liveRe :=
  ⟨by decide, fun _ => ⟨g, 0, rfl, (Array.getElem?_eq_some_iff.1 h).1, by decide, fun i hi j => by
    by_cases hj : 9 ≤ j
    · exact .inr hj
    left
    have h2 : i < 2 := hi
    rcases (show i = 0 ∨ i = 1 by omega) with rfl | rfl <;> rcases (show j = 0 ∨ j = 1 ∨ j = 2 ∨ j = 3 ∨ j = 4 ∨ j = 5 ∨ j = 6 ∨ j = 7 ∨ j = 8 by omega) with rfl | rfl | rfl | rfl | rfl | rfl | rfl | rfl | rfl <;> simp [World.cell?, h, liveRe, ndCells], by decide⟩⟩
set_option maxRecDepth 100000 in
set_option maxHeartbeats 6400000 in
theorem lives_call {w : World} (ht : Tabs w) : Calls Tryd.prog 8 #[] w (fun e w' => e = .returned (.bool true) ∧ Below w.heap.size w w') := by
  have HT := Lib.hid ht
  have hB : Below w.heap.size w ((w.alloc (.cells #[.int .u64 0, .int .u64 8589934592, .int .u64 0, .int .u64 0] 75)).alloc (.cells #[.int .i8 6, .int .u64 0, .int .u64 0, .int .u64 0, .int .u64 0, .int .i64 0, .int .i64 0, .int .i64 (-1), .int .i64 1, .int .i8 1, .int .u64 0, .int .u64 8589934592, .int .u64 0, .int .u64 0, .int .i64 0, .int .i64 0, .int .i64 0, .int .i64 0] 77)) := ((Below.refl _ w).alloc (Nat.le_refl _) _).alloc (by simp) _
  have HN := Lib.hid (show NdV ((w.alloc (.cells #[.int .u64 0, .int .u64 8589934592, .int .u64 0, .int .u64 0] 75)).alloc (.cells #[.int .i8 6, .int .u64 0, .int .u64 0, .int .u64 0, .int .u64 0, .int .i64 0, .int .i64 0, .int .i64 (-1), .int .i64 1, .int .i8 1, .int .u64 0, .int .u64 8589934592, .int .u64 0, .int .u64 0, .int .i64 0, .int .i64 0, .int .i64 0, .int .i64 0] 77)) (some ⟨w.heap.size + 1, 0, none⟩) liveRe from live_nodes (by have h := heap_alloc_new (w.alloc (.cells #[.int .u64 0, .int .u64 8589934592, .int .u64 0, .int .u64 0] 75)) (.cells (liveRe.flatMap fun x => (ndCells x).toList).toArray 77); rw [World.size_alloc] at h; exact h))
  have HT1 := Lib.hid (ht.below hB)
  have HB := Lib.hid hB
  clear ht hB
  go_enter Tryd.func8, Tryd.ntmps8
  go_wp2_with fail
  refine (print_call (cap := 2) HN.out HT1.out false).mono ?_
  rintro e w1 ⟨hb1, hr1⟩
  rw [if_neg (by rw [live_shaped]; decide), live_spell] at hr1
  obtain ⟨v1, rfl, hm1⟩ := hr1
  have HB1 := Lib.hid (HB.out.trans (hb1.mono HB.out.size))
  obtain ⟨oa1, cap1, hv1, hk1⟩ := MkIn.of_own hm1 (by decide) (by decide)
  have hv1' : v1 = .slice oa1 2 cap1 := hv1
  subst hv1'
  have HK1 := Lib.hid hk1
  clear hb1 hm1 HN HB HT1 hv1 hk1
  have HA1 := Lib.hid (MkIn.made (W := w1.alloc (.cells #[.int .u8 97, .bool false, .int .u8 47, .bool true] 33)) (g := w1.heap.size) (L := [⟨97, false⟩, ⟨47, true⟩]) (heap_alloc_new _ _) (by decide) (by decide))
  have hb1 : Below w1.heap.size w1 (w1.alloc (.cells #[.int .u8 97, .bool false, .int .u8 47, .bool true] 33)) := (Below.refl _ _).alloc (Nat.le_refl _) _
  have HB2 := Lib.hid (HB1.out.trans (hb1.mono HB1.out.size))
  have HK2 := Lib.hid (HK1.out.below hb1)
  clear hb1 HB1 HK1
  go_wp2_with fail
  refine (text_call (cap := 2) HA1.out 47 (by omega)).mono ?_
  rintro e w2 ⟨hb2, hr2⟩
  rw [live_text] at hr2
  obtain ⟨v2, rfl, hm2⟩ := hr2
  obtain ⟨oa2, cap2, hv2, hk2⟩ := BtIn.of_own (L := [97, 92, 47]) hm2 (by decide)
  have hv2' : v2 = .slice oa2 3 cap2 := hv2
  subst hv2'
  have HB3 := Lib.hid (HB2.out.trans (hb2.mono HB2.out.size))
  have HK3 := Lib.hid (HK2.out.below hb2)
  have HL3 := Lib.hid hk2
  clear hb2 hm2 hv2 hk2 HA1 HB2 HK2
  have HA2 := Lib.hid (MkIn.made (W := w2.alloc (.cells #[.int .u8 97, .bool false, .int .u8 42, .bool false] 33)) (g := w2.heap.size) (L := bm [97, 42]) (heap_alloc_new _ _) (by decide) (by decide))
  have hb3 : Below w2.heap.size w2 (w2.alloc (.cells #[.int .u8 97, .bool false, .int .u8 42, .bool false] 33)) := (Below.refl _ _).alloc (Nat.le_refl _) _
  have HB4 := Lib.hid (HB3.out.trans (hb3.mono HB3.out.size))
  have HK4 := Lib.hid (HK3.out.below hb3)
  have HL4 := Lib.hid (HL3.out.below hb3)
  clear hb3 HB3 HK3 HL3
  go_wp2_with fail
  refine (eqMarks_call (ca := cap1) (cb := 2) HK4.out HA2.out).mono ?_
  rintro e w3 ⟨rfl, hb4⟩
  rw [show decide (bm [97, 42] = bm [97, 42]) = true by decide]
  have HB5 := Lib.hid (HB4.out.trans (hb4.mono HB4.out.size))
  have HL5 := Lib.hid (HL4.out.below hb4)
  clear hb4 HA2 HB4 HK4 HL4
  have HA3 := Lib.hid (BtIn.made (W := w3.alloc (.cells #[.int .u8 97, .int .u8 92, .int .u8 47] 5 (3, 4))) (g := w3.heap.size) (L := [97, 92, 47]) (heap_alloc_new _ _) (by decide))
  have hb5 : Below w3.heap.size w3 (w3.alloc (.cells #[.int .u8 97, .int .u8 92, .int .u8 47] 5 (3, 4))) := (Below.refl _ _).alloc (Nat.le_refl _) _
  have HB6 := Lib.hid (HB5.out.trans (hb5.mono HB5.out.size))
  have HL6 := Lib.hid (HL5.out.below hb5)
  clear hb5 HB5 HL5
  have hcv := Lib.run_convert_bytes_const (P := Tryd.prog) w3 26 5 #[.int .u8 97, .int .u8 92, .int .u8 47] 3 3 Tryd.underlying26 Tryd.underlying5
  rw [show (#[Value.int .u8 97, .int .u8 92, .int .u8 47] : Array Value).size = 3 from rfl] at hcv
  go_wp2_with fail
  refine (eqBytes_call (ca := cap2) (cb := 3) HL6.out HA3.out).mono ?_
  rintro e w4 ⟨rfl, hb6⟩
  rw [show decide (([97, 92, 47] : List Nat) = [97, 92, 47]) = true by decide]
  have HB7 := Lib.hid (HB6.out.trans (hb6.mono HB6.out.size))
  clear hb6
  go_wp2_with fail
  go_ret
  exact ⟨rfl, HB7.out⟩
end Go.Proofs.YtbdjcmhfcdamiaaDoor

/- The walk of SpellReads. -/
namespace Go.Proofs.YtbdjcmhfcdamiaaDoor
open Go.RowKit

/-- The argument's cells. -/
structure TwoAt (w : World) (b : Nat) (x0 x1 x3 : Value) (d : Nat) : Prop where
  lt : b < w.heap.size
  c0 : w.cell? ⟨b, 0, none⟩ = some x0
  c1 : w.cell? ⟨b, 1, none⟩ = some x1
  c2 : w.cell? ⟨b, 2, none⟩ = some (.int .u8 (d : Nat))
  c3 : w.cell? ⟨b, 3, none⟩ = some x3
theorem TwoAt.new (w : World) (x0 x1 x3 : Value) (d : Nat) (t : TypeId) : TwoAt (w.alloc (.cells #[x0, x1, .int .u8 (d : Nat), x3] t)) w.heap.size x0 x1 x3 d :=
  ⟨by simp, by simp [go_sem], by simp [go_sem], by simp [go_sem], by simp [go_sem]⟩
theorem BtIn.of_own2 {w : World} {base : Nat} {v : Value} {L : List Nat} (h : w.ownsRow base 5 1 v L.length (u8s L)) (hl : L.length ≤ 4294967296) : ∃ oa cap, v = .slice oa L.length cap ∧ BtIn w oa L ∧ (oa = none → cap = 0) := by
  obtain ⟨oa, cap, hv, hk⟩ := BtIn.of_own h hl
  refine ⟨oa, cap, hv, hk, fun e => ?_⟩
  subst e
  rcases h.2 with ⟨h1, h2⟩ | ⟨g, cap', cur, h1, _⟩
  · rw [hv] at h1; simp only [Value.slice.injEq] at h1; exact h1.2.2
  · rw [hv] at h1; cases h1
theorem BtIn.src {w : World} {oa : Option Addr} {cap : Nat} {L : List Nat} (h : BtIn w oa L) (hc : oa = none → cap = 0) : Src w (.slice oa L.length cap) L.length (u8s L) := by
  cases oa with
  | none =>
    have h0 : L = [] := by
      by_cases hp : 0 < L.length
      · obtain ⟨g, o, h1, _⟩ := h.at_ hp
        cases h1
      · exact List.eq_nil_of_length_eq_zero (by omega)
    subst h0
    rw [hc rfl]
    exact .inl ⟨rfl, rfl, rfl⟩
  | some a =>
    refine .inr ⟨a, cap, rfl, fun j u hu => ?_⟩
    have hj : j < L.length := by
      have := (List.getElem?_eq_some_iff.1 hu).1
      simpa [u8s] using this
    obtain ⟨g, o, h1, _, h3⟩ := h.at_ (by omega)
    cases h1
    have hadd : (⟨g, o, none⟩ : Addr).add j = ⟨g, o + j, none⟩ := by unfold Addr.add; split <;> simp_all
    rw [hadd]
    have hlj : L[j]? = some L[j] := List.getElem?_eq_getElem hj
    rw [h3 j _ hlj]
    simp only [u8s, List.getElem?_map, hlj, Option.map_some, Option.some.injEq] at hu
    rw [← hu]
set_option maxRecDepth 100000 in
set_option maxHeartbeats 6400000 in
theorem reads_all {w : World} {L M : List Mk} {X : List Nat} {oa ob oc : Option Addr} {ca cb cc : Nat} (d : Nat) (hd : d < 256) (hL : L.length ≤ 70368744177664) (hM : M.length ≤ 70368744177664) (hX : X.length ≤ 140737488355328)
    (iL : L.length ≤ 1073741823 → MkIn w oa L) (iM : M.length ≤ 1073741823 → MkIn w ob M) (iX : X.length ≤ 2147483647 → BtIn w oc X) (hcc : oc = none → cc = 0) (ht : Tabs w) :
    Calls Tryd.prog 4 #[.agg #[.slice oa L.length ca, .slice ob M.length cb, .int .u8 (d : Nat), .slice oc X.length cc]] w fun e w' => e = .returned (.bool true) ∧ Below w.heap.size w w' := by
  have HT := Lib.hid ht
  have HIL := Lib.hid iL
  have HIM := Lib.hid iM
  have HIX := Lib.hid iX
  clear ht iL iM iX
  go_enter Tryd.func4, Tryd.ntmps4
  go_upto_region 1 with fail
  have hc := TwoAt.new w (.slice oa L.length ca) (.slice ob M.length cb) (.slice oc X.length cc) d 60
  have hb : Below w.heap.size w (w.alloc (.cells #[.slice oa L.length ca, .slice ob M.length cb, .int .u8 (d : Nat), .slice oc X.length cc] 60)) := (Below.refl _ _).alloc (Nat.le_refl _) _
  revert hc hb
  generalize w.alloc (.cells #[.slice oa L.length ca, .slice ob M.length cb, .int .u8 (d : Nat), .slice oc X.length cc] 60) = wx
  generalize hbb : w.heap.size = B
  intro hc hb
  have HBB := Lib.hid hbb
  have HB := Lib.hid hb
  obtain ⟨z, c0, c1, c2, c3⟩ := hc
  clear hbb hb
  refine wp_region_segs (X := none) 12 [] [0, 1, 2, 3, 4, 5, 6, 7, 8, 9, 10, 11] (by kernel_rfl) (by kernel_rfl) rfl (fun _ _ _ _ _ h => h) ?_
  simp only [wpSegs, pickSegs_nil, pickOps_nil, pickOps_cons, List.getD_cons_zero, List.getD_cons_succ, List.drop_succ_cons, List.drop_nil]
  repeat (go_big_quiet_step (fail))
  refine wpQuiet_nil ?_
  go_wp2_with fail
  refine (long_call _).mono ?_; rintro e wa ⟨rfl, rfl⟩
  by_cases q1 : (2147483647 : Int) < 2 * (L.length : Int)
  · rw [decide_eq_true q1]
    clear q1
    go_wp2_with fail
    go_ret
    exact ⟨rfl, by rw [HBB.out]; exact HB.out.drew⟩
  rw [decide_eq_false q1]
  go_wp2_with fail
  refine (long_call _).mono ?_; rintro e wa ⟨rfl, rfl⟩
  by_cases q2 : (2147483647 : Int) < 2 * (M.length : Int)
  · rw [decide_eq_true q2]
    clear q1 q2
    go_wp2_with fail
    go_ret
    exact ⟨rfl, by rw [HBB.out]; exact HB.out.drew⟩
  rw [decide_eq_false q2]
  go_wp2_with fail
  refine (long_call _).mono ?_; rintro e wa ⟨rfl, rfl⟩
  by_cases q3 : (2147483647 : Int) < 2 * (L.length : Int) + (X.length : Int) + 1
  · rw [decide_eq_true q3]
    clear q1 q2 q3
    go_wp2_with fail
    go_ret
    exact ⟨rfl, by rw [HBB.out]; exact HB.out.drew⟩
  rw [decide_eq_false q3]
  have hB0 : Below w.heap.size w wx.drew := by rw [HBB.out]; exact HB.out.drew
  have HL0 := Lib.hid ((HIL.out (by omega)).below hB0)
  have HM0 := Lib.hid ((HIM.out (by omega)).below hB0)
  have HX0 := Lib.hid ((HIX.out (by omega)).below hB0)
  have HT0 := Lib.hid (HT.out.below hB0)
  have HB0 := Lib.hid hB0
  have HLEN := Lib.hid (show 2 * L.length + X.length + 1 ≤ 2147483647 by omega)
  clear hB0 q1 q2 q3 c0 c1 c2 c3 z HIL HIM HIX HT HB
  go_wp2_with fail
  refine (lives_call HT0.out).mono ?_
  rintro e w1 ⟨rfl, hb1⟩
  have HB1 := Lib.hid (HB0.out.trans (hb1.mono HB0.out.size))
  have HL1 := Lib.hid (HL0.out.below hb1)
  have HM1 := Lib.hid (HM0.out.below hb1)
  have HX1 := Lib.hid (HX0.out.below hb1)
  clear hb1 HB0 HL0 HM0 HX0 HT0
  go_wp2_with fail
  refine (text_call (cap := ca) HL1.out d hd).mono ?_
  rintro e w2 ⟨hb2, hr2⟩
  have HB2 := Lib.hid (HB1.out.trans (hb2.mono HB1.out.size))
  have HL2 := Lib.hid (HL1.out.below hb2)
  have HM2 := Lib.hid (HM1.out.below hb2)
  have HX2 := Lib.hid (HX1.out.below hb2)
  clear hb2 HB1 HL1 HM1 HX1
  cases htl : textL d L with
  | none =>
    rw [htl] at hr2
    obtain rfl := hr2
    clear htl
    go_wp2_with fail
    refine (text_call (cap := cb) HM2.out d hd).mono ?_
    rintro e w3 ⟨hb3, hr3⟩
    have HB3 := Lib.hid (HB2.out.trans (hb3.mono HB2.out.size))
    clear hb3 HB2 HL2 HM2 HX2
    cases htm : textL d M with
    | none =>
      rw [htm] at hr3
      obtain rfl := hr3
      clear htm
      go_wp2_with fail
      go_ret
      exact ⟨rfl, HB3.out⟩
    | some c =>
      rw [htm] at hr3
      obtain ⟨v3, rfl, _⟩ := hr3
      clear htm
      go_wp2_with fail
      go_ret
      exact ⟨rfl, HB3.out⟩
  | some b =>
    rw [htl] at hr2
    obtain ⟨v2, rfl, hm2⟩ := hr2
    have HTL := Lib.hid htl
    have hbl : b.length ≤ 2 * L.length := by
      have h := htl
      unfold textL at h
      split at h
      · cases h
      · exact textT_length _ _ _ _ h
    obtain ⟨oa2, cap2, hv2, hk2, hcap2⟩ := BtIn.of_own2 hm2 (by have := HLEN.out; omega)
    have HC2 := Lib.hid hcap2
    have HCC := Lib.hid hcc
    clear hcap2 hcc
    subst hv2
    have HK2 := Lib.hid hk2
    have HBL := Lib.hid hbl
    clear htl hm2 hk2 hbl
    go_wp2_with fail
    refine (text_call (cap := cb) HM2.out d hd).mono ?_
    rintro e w3 ⟨hb3, hr3⟩
    have HB3 := Lib.hid (HB2.out.trans (hb3.mono HB2.out.size))
    have HL3 := Lib.hid (HL2.out.below hb3)
    have HM3 := Lib.hid (HM2.out.below hb3)
    have HX3 := Lib.hid (HX2.out.below hb3)
    have HK3 := Lib.hid (HK2.out.below hb3)
    clear hb3 HB2 HL2 HM2 HX2 HK2
    cases htm : textL d M with
    | none =>
      rw [htm] at hr3
      obtain rfl := hr3
      clear htm
      go_wp2_with (at_builtin; refine wpList_app (n := 0) (m := b.length) (xs := []) (news := u8s b) elU8 rfl _ _ rfl w3.heap.size rfl (World.ownsRow_nil _ _ _ _) rfl (HK3.out.src HC2.out) (by simp [u8s]) (u8s_one b) (by have := HLEN.out; have := HBL.out; unfold maxLen; omega) (by have := HLEN.out; have := HBL.out; omega) (Nat.le_refl _) ?_)
      intro v6 w6 ho6 hg6 _
      have ho6' : w6.ownsRow w3.heap.size 5 1 v6 b.length (u8s b) := by simpa using ho6
      have hb6 : Below w3.heap.size w3 w6 := (Below.refl _ _).grown hg6 (Nat.le_refl _) (fun k hk => by cases hk)
      have HO6 := Lib.hid ho6'
      have HB6 := Lib.hid hb6
      clear ho6 ho6' hg6 hb6
      go_wp2_with (at_builtin; refine wpList_app (n := b.length) (m := 1) (news := [.int .u8 (d : Nat)]) elU8 rfl _ _ rfl w3.heap.size rfl (HO6.out.alloc _) rfl (Src.new w6 [.int .u8 (d : Nat)] _ _ _) rfl (by simp [Value.oneCell']) (by have := HLEN.out; have := HBL.out; unfold maxLen; omega) (by have := HLEN.out; have := HBL.out; omega) (by have := HB6.out.size; simp; omega) ?_)
      intro v7 w7 ho7 hg7 _
      have hb7 : Below w3.heap.size w3 w7 := Below.grown (Below.alloc HB6.out HB6.out.size _) hg7 (by have := HB6.out.size; simp; omega) (fun k hk => (HO6.out.lt k hk).1)
      have HO7 := Lib.hid ho7
      have HB7 := Lib.hid hb7
      have HX7 := Lib.hid (HX3.out.below hb7)
      clear ho7 hg7 hb7
      go_wp2_with (at_builtin; refine wpList_app (n := b.length + 1) (m := X.length) (news := u8s X) elU8 rfl _ _ rfl w3.heap.size rfl HO7.out rfl (HX7.out.src HCC.out) (by simp [u8s]) (u8s_one X) (by have := HLEN.out; have := HBL.out; unfold maxLen; omega) (by have := HLEN.out; have := HBL.out; omega) HB7.out.size ?_)
      intro v8 w8 ho8 hg8 _
      have hb8 : Below w3.heap.size w3 w8 := Below.grown HB7.out hg8 HB7.out.size (fun k hk => (HO7.out.lt k hk).1)
      have ho8' : w8.ownsRow w3.heap.size 5 1 v8 (b ++ d :: X).length (u8s (b ++ d :: X)) := by
        have e1 : (b ++ d :: X).length = b.length + 1 + X.length := by simp; omega
        have e2 : u8s (b ++ d :: X) = u8s b ++ [.int .u8 (d : Nat)] ++ u8s X := by simp [u8s]
        rw [e1, e2, List.append_assoc]; exact ho8
      have hl8 : (b ++ d :: X).length ≤ 2147483648 := by have := HLEN.out; have := HBL.out; simp; omega
      generalize hY : b ++ d :: X = Y at ho8' hl8
      have HYY := Lib.hid hY
      clear hY
      obtain ⟨oa8, cap8, hv8, hk8, _⟩ := BtIn.of_own2 ho8' (by omega)
      subst hv8
      have HK8 := Lib.hid hk8
      have HL8 := Lib.hid hl8
      have HB8 := Lib.hid (HB3.out.trans (hb8.mono HB3.out.size))
      have HLL8 := Lib.hid (HL3.out.below hb8)
      clear ho8 hg8 hb8 ho8' hl8 hk8
      go_wp2_with fail
      refine (read_call (cap := cap8) HK8.out HL8.out d).mono ?_
      rintro e w9 ⟨⟨v9, rfl, hm9⟩, hb9⟩
      obtain ⟨d92, d10, hrd⟩ := read_textL HTL.out X
      rw [HYY.out] at hrd
      rw [hrd] at hm9 ⊢
      have hu : ∀ m ∈ L, m.b < 256 := fun m hm => by
        obtain ⟨i, hi⟩ := List.getElem?_of_mem hm
        obtain ⟨_, _, _, _, h3⟩ := HLL8.out.at_ (by have := (List.getElem?_eq_some_iff.1 hi).1; omega)
        exact (h3 i m hi).2.2
      obtain ⟨oa9, cap9, hv9, hk9⟩ := MkIn.of_own hm9 HLL8.out.len hu
      have hv9' : v9 = .slice oa9 L.length cap9 := hv9
      subst hv9'
      have HK9 := Lib.hid hk9
      have HB9 := Lib.hid (HB8.out.trans (hb9.mono HB8.out.size))
      have HL9 := Lib.hid (HLL8.out.below hb9)
      have e92 : ((d : Int) != 92) = true := by simp [bne]; omega
      have e10 : ((d : Int) != 10) = true := by simp [bne]; omega
      have hbl64 : (b.length : Int) + 1 ≤ 9223372036854775807 := by have := HLEN.out; have := HBL.out; omega
      clear hm9 hb9 hrd hu hv9 hk9 d92 d10
      go_wp2_with fail
      refine (eqMarks_call (ca := cap9) (cb := ca) HK9.out HL9.out).mono ?_
      rintro e w10 ⟨rfl, hb10⟩
      rw [show decide (L = L) = true by simp]
      have HB10 := Lib.hid (HB9.out.trans (hb10.mono HB9.out.size))
      clear hb10
      go_wp2_with fail
      go_ret
      exact ⟨rfl, HB10.out⟩
    | some c =>
      rw [htm] at hr3
      obtain ⟨v3, rfl, hm3⟩ := hr3
      have hcl : c.length ≤ 2 * M.length := by
        have h := htm
        unfold textL at h
        split at h
        · cases h
        · exact textT_length _ _ _ _ h
      obtain ⟨oa3, cap3, hv3, hk3, _⟩ := BtIn.of_own2 hm3 (by have := HM3.out.len; omega)
      subst hv3
      have HK3c := Lib.hid hk3
      have HIFF := Lib.hid (textL_inj HTL.out htm)
      clear htm hm3 hk3 hcl
      go_wp2_with fail
      refine (eqBytes_call (ca := cap2) (cb := cap3) HK3.out HK3c.out).mono ?_
      rintro e w4 ⟨rfl, hb4⟩
      rw [show decide (b = c) = decide (L = M) by rw [decide_eq_decide]; exact HIFF.out]
      have HB4 := Lib.hid (HB3.out.trans (hb4.mono HB3.out.size))
      have HL4 := Lib.hid (HL3.out.below hb4)
      have HM4 := Lib.hid (HM3.out.below hb4)
      have HX4 := Lib.hid (HX3.out.below hb4)
      have HK4 := Lib.hid (HK3.out.below hb4)
      clear hb4 HB3 HL3 HM3 HX3 HK3 HK3c
      generalize hdq : decide (L = M) = q
      have HDQ := Lib.hid hdq
      clear hdq
      go_wp2_with fail
      refine (eqMarks_call (ca := ca) (cb := cb) HL4.out HM4.out).mono ?_
      rintro e w5 ⟨rfl, hb5⟩
      rw [HDQ.out]
      have HB5 := Lib.hid (HB4.out.trans (hb5.mono HB4.out.size))
      have HL5 := Lib.hid (HL4.out.below hb5)
      have HX5 := Lib.hid (HX4.out.below hb5)
      have HK5 := Lib.hid (HK4.out.below hb5)
      have eq1 : (q != q) = false := by simp
      clear hb5 HB4 HL4 HM4 HX4 HK4
      go_wp2_with (at_builtin; refine wpList_app (n := 0) (m := b.length) (xs := []) (news := u8s b) elU8 rfl _ _ rfl w5.heap.size rfl (World.ownsRow_nil _ _ _ _) rfl (HK5.out.src HC2.out) (by simp [u8s]) (u8s_one b) (by have := HLEN.out; have := HBL.out; unfold maxLen; omega) (by have := HLEN.out; have := HBL.out; omega) (Nat.le_refl _) ?_)
      intro v6 w6 ho6 hg6 _
      have ho6' : w6.ownsRow w5.heap.size 5 1 v6 b.length (u8s b) := by simpa using ho6
      have hb6 : Below w5.heap.size w5 w6 := (Below.refl _ _).grown hg6 (Nat.le_refl _) (fun k hk => by cases hk)
      have HO6 := Lib.hid ho6'
      have HB6 := Lib.hid hb6
      clear ho6 ho6' hg6 hb6
      go_wp2_with (at_builtin; refine wpList_app (n := b.length) (m := 1) (news := [.int .u8 (d : Nat)]) elU8 rfl _ _ rfl w5.heap.size rfl (HO6.out.alloc _) rfl (Src.new w6 [.int .u8 (d : Nat)] _ _ _) rfl (by simp [Value.oneCell']) (by have := HLEN.out; have := HBL.out; unfold maxLen; omega) (by have := HLEN.out; have := HBL.out; omega) (by have := HB6.out.size; simp; omega) ?_)
      intro v7 w7 ho7 hg7 _
      have hb7 : Below w5.heap.size w5 w7 := Below.grown (Below.alloc HB6.out HB6.out.size _) hg7 (by have := HB6.out.size; simp; omega) (fun k hk => (HO6.out.lt k hk).1)
      have HO7 := Lib.hid ho7
      have HB7 := Lib.hid hb7
      have HX7 := Lib.hid (HX5.out.below hb7)
      clear ho7 hg7 hb7
      go_wp2_with (at_builtin; refine wpList_app (n := b.length + 1) (m := X.length) (news := u8s X) elU8 rfl _ _ rfl w5.heap.size rfl HO7.out rfl (HX7.out.src HCC.out) (by simp [u8s]) (u8s_one X) (by have := HLEN.out; have := HBL.out; unfold maxLen; omega) (by have := HLEN.out; have := HBL.out; omega) HB7.out.size ?_)
      intro v8 w8 ho8 hg8 _
      have hb8 : Below w5.heap.size w5 w8 := Below.grown HB7.out hg8 HB7.out.size (fun k hk => (HO7.out.lt k hk).1)
      have ho8' : w8.ownsRow w5.heap.size 5 1 v8 (b ++ d :: X).length (u8s (b ++ d :: X)) := by
        have e1 : (b ++ d :: X).length = b.length + 1 + X.length := by simp; omega
        have e2 : u8s (b ++ d :: X) = u8s b ++ [.int .u8 (d : Nat)] ++ u8s X := by simp [u8s]
        rw [e1, e2, List.append_assoc]; exact ho8
      have hl8 : (b ++ d :: X).length ≤ 2147483648 := by have := HLEN.out; have := HBL.out; simp; omega
      generalize hY : b ++ d :: X = Y at ho8' hl8
      have HYY := Lib.hid hY
      clear hY
      obtain ⟨oa8, cap8, hv8, hk8, _⟩ := BtIn.of_own2 ho8' (by omega)
      subst hv8
      have HK8 := Lib.hid hk8
      have HL8 := Lib.hid hl8
      have HB8 := Lib.hid (HB5.out.trans (hb8.mono HB5.out.size))
      have HLL8 := Lib.hid (HL5.out.below hb8)
      clear ho8 hg8 hb8 ho8' hl8 hk8
      go_wp2_with fail
      refine (read_call (cap := cap8) HK8.out HL8.out d).mono ?_
      rintro e w9 ⟨⟨v9, rfl, hm9⟩, hb9⟩
      obtain ⟨d92, d10, hrd⟩ := read_textL HTL.out X
      rw [HYY.out] at hrd
      rw [hrd] at hm9 ⊢
      have hu : ∀ m ∈ L, m.b < 256 := fun m hm => by
        obtain ⟨i, hi⟩ := List.getElem?_of_mem hm
        obtain ⟨_, _, _, _, h3⟩ := HLL8.out.at_ (by have := (List.getElem?_eq_some_iff.1 hi).1; omega)
        exact (h3 i m hi).2.2
      obtain ⟨oa9, cap9, hv9, hk9⟩ := MkIn.of_own hm9 HLL8.out.len hu
      have hv9' : v9 = .slice oa9 L.length cap9 := hv9
      subst hv9'
      have HK9 := Lib.hid hk9
      have HB9 := Lib.hid (HB8.out.trans (hb9.mono HB8.out.size))
      have HL9 := Lib.hid (HLL8.out.below hb9)
      have e92 : ((d : Int) != 92) = true := by simp [bne]; omega
      have e10 : ((d : Int) != 10) = true := by simp [bne]; omega
      have hbl64 : (b.length : Int) + 1 ≤ 9223372036854775807 := by have := HLEN.out; have := HBL.out; omega
      clear hm9 hb9 hrd hu hv9 hk9 d92 d10
      go_wp2_with fail
      refine (eqMarks_call (ca := cap9) (cb := ca) HK9.out HL9.out).mono ?_
      rintro e w10 ⟨rfl, hb10⟩
      rw [show decide (L = L) = true by simp]
      have HB10 := Lib.hid (HB9.out.trans (hb10.mono HB9.out.size))
      clear hb10
      go_wp2_with fail
      go_ret
      exact ⟨rfl, HB10.out⟩
end Go.Proofs.YtbdjcmhfcdamiaaDoor
