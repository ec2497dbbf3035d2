/- Parts: Ky. -/
import Derived.Test.YtbdjcmhfcdamiaaGreatDoorQ25
import Derived.Lib.SlBytesConst
/- The contract of galleylaw06's lives. -/
namespace Go.Proofs.YtbdjcmhfcdamiaaGreatDoor
open Go.RowKit

def liveRe : List Nd := [⟨6, ⟨0, 0, 0, 0⟩, 0, 0, -1, 1⟩, ⟨1, ⟨0, 8589934592, 0, 0⟩, 0, 0, 0, 0⟩]
theorem live_shaped : shapedN liveRe = true := by decide +kernel
theorem live_spell : spellN false liveRe = some [97, 42] := by decide +kernel
theorem live_text : textL 47 [⟨97, false⟩, ⟨47, true⟩] = some [97, 92, 47] := by decide +kernel
theorem MkIn.made {W : World} {g : Nat} {L : List Mk} (h : W.heap[g]? = some (.cells (mksC L).toArray 33 (0, 0))) (hl : L.length ≤ 1073741824) (hu : ∀ m ∈ L, m.b < 256) : MkIn W (some ⟨g, 0, none⟩) L :=
  ⟨hl, fun _ => ⟨g, 0, rfl, (Array.getElem?_eq_some_iff.1 h).1, fun i m hi => by
    have hc := mksC_at L i (List.getElem?_eq_some_iff.1 hi).1
    have hm : markAt L i = m := by unfold markAt; rw [List.getD_eq_getElem?_getD, hi]; rfl
    rw [hm] at hc
    have hcell : ∀ j u, (mksC L)[j]? = some u → W.cell? ⟨g, j, none⟩ = some u := fun j u hj => by
      simp [World.cell?, h, hj]
    refine ⟨?_, ?_, hu m (List.mem_of_getElem? hi)⟩
    · rw [Nat.zero_add]; exact hcell _ _ hc.1
    · rw [Nat.zero_add]; exact hcell _ _ hc.2⟩⟩
theorem BtIn.made {W : World} {g : Nat} {L : List Nat} {fz : Nat × Nat} (h : W.heap[g]? = some (.cells (u8s L).toArray 5 fz)) (hl : L.length ≤ 4294967296) : BtIn W (some ⟨g, 0, none⟩) L :=
  ⟨hl, fun _ => ⟨g, 0, rfl, (Array.getElem?_eq_some_iff.1 h).1, fun i b hi => by
    rw [Nat.zero_add]
    simp [World.cell?, h, u8s, hi]⟩⟩
theorem live_nodes {W : World} {g : Nat} (h : W.heap[g]? = some (.cells (liveRe.flatMap fun x => (ndCells x).toList).toArray 39 (0, 0))) : NdV W (some ⟨g, 0, none⟩) liveRe :=
  ⟨by decide, fun _ => ⟨g, 0, rfl, (Array.getElem?_eq_some_iff.1 h).1, by decide, fun i hi j => by
    by_cases hj : 9 ≤ j
    · exact .inr hj
    left
    have h2 : i < 2 := hi
    rcases (show i = 0 ∨ i = 1 by omega) with rfl | rfl <;> rcases (show j = 0 ∨ j = 1 ∨ j = 2 ∨ j = 3 ∨ j = 4 ∨ j = 5 ∨ j = 6 ∨ j = 7 ∨ j = 8 by omega) with rfl | rfl | rfl | rfl | rfl | rfl | rfl | rfl | rfl <;> simp [World.cell?, h, liveRe, ndCells], by decide⟩⟩
set_option maxRecDepth 100000 in
set_option maxHeartbeats 6400000 in
theorem lives_call {w : World} (ht : Tabs w) : Calls Tryz.prog 6 #[] w (fun e w' => e = .returned (.bool true) ∧ Below w.heap.size w w') := by
  have HT := Lib.hid ht
  have hB : Below w.heap.size w ((w.alloc (.cells #[.int .u64 0, .int .u64 8589934592, .int .u64 0, .int .u64 0] 37)).alloc (.cells #[.int .i8 6, .int .u64 0, .int .u64 0, .int .u64 0, .int .u64 0, .int .i64 0, .int .i64 0, .int .i64 (-1), .int .i64 1, .int .i8 1, .int .u64 0, .int .u64 8589934592, .int .u64 0, .int .u64 0, .int .i64 0, .int .i64 0, .int .i64 0, .int .i64 0] 39)) := ((Below.refl _ w).alloc (Nat.le_refl _) _).alloc (by simp) _
  have HN := Lib.hid (show NdV ((w.alloc (.cells #[.int .u64 0, .int .u64 8589934592, .int .u64 0, .int .u64 0] 37)).alloc (.cells #[.int .i8 6, .int .u64 0, .int .u64 0, .int .u64 0, .int .u64 0, .int .i64 0, .int .i64 0, .int .i64 (-1), .int .i64 1, .int .i8 1, .int .u64 0, .int .u64 8589934592, .int .u64 0, .int .u64 0, .int .i64 0, .int .i64 0, .int .i64 0, .int .i64 0] 39)) (some ⟨w.heap.size + 1, 0, none⟩) liveRe from live_nodes (by have h := heap_alloc_new (w.alloc (.cells #[.int .u64 0, .int .u64 8589934592, .int .u64 0, .int .u64 0] 37)) (.cells (liveRe.flatMap fun x => (ndCells x).toList).toArray 39); rw [World.size_alloc] at h; exact h))
  have HT1 := Lib.hid (ht.below hB)
  have HB := Lib.hid hB
  clear ht hB
  go_enter Tryz.func6, Tryz.ntmps6
  go_wp2_with fail
  refine (print_call (cap := 2) HN.out HT1.out false).mono ?_
  rintro e w1 ⟨hb1, hr1⟩
  rw [if_neg (by rw [live_shaped]; decide), live_spell] at hr1
  obtain ⟨v1, rfl, hm1⟩ := hr1
  have HB1 := Lib.hid (HB.out.trans (hb1.mono HB.out.size))
  obtain ⟨oa1, cap1, hv1, hk1⟩ := MkIn.of_own hm1 (by decide) (by decide)
  have hv1' : v1 = .slice oa1 2 cap1 := hv1
  subst hv1'
  have HK1 := Lib.hid hk1
  clear hb1 hm1 HN HB HT1 hv1 hk1
  have HA1 := Lib.hid (MkIn.made (W := w1.alloc (.cells #[.int .u8 97, .bool false, .int .u8 47, .bool true] 33)) (g := w1.heap.size) (L := [⟨97, false⟩, ⟨47, true⟩]) (heap_alloc_new _ _) (by decide) (by decide))
  have hb1 : Below w1.heap.size w1 (w1.alloc (.cells #[.int .u8 97, .bool false, .int .u8 47, .bool true] 33)) := (Below.refl _ _).alloc (Nat.le_refl _) _
  have HB2 := Lib.hid (HB1.out.trans (hb1.mono HB1.out.size))
  have HK2 := Lib.hid (HK1.out.below hb1)
  clear hb1 HB1 HK1
  go_wp2_with fail
  refine (text_call (cap := 2) HA1.out 47 (by omega)).mono ?_
  rintro e w2 ⟨hb2, hr2⟩
  rw [live_text] at hr2
  obtain ⟨v2, rfl, hm2⟩ := hr2
  obtain ⟨oa2, cap2, hv2, hk2⟩ := BtIn.of_own (L := [97, 92, 47]) hm2 (by decide)
  have hv2' : v2 = .slice oa2 3 cap2 := hv2
  subst hv2'
  have HB3 := Lib.hid (HB2.out.trans (hb2.mono HB2.out.size))
  have HK3 := Lib.hid (HK2.out.below hb2)
  have HL3 := Lib.hid hk2
  clear hb2 hm2 hv2 hk2 HA1 HB2 HK2
  have HA2 := Lib.hid (MkIn.made (W := w2.alloc (.cells #[.int .u8 97, .bool false, .int .u8 42, .bool false] 33)) (g := w2.heap.size) (L := bm [97, 42]) (heap_alloc_new _ _) (by decide) (by decide))
  have hb3 : Below w2.heap.size w2 (w2.alloc (.cells #[.int .u8 97, .bool false, .int .u8 42, .bool false] 33)) := (Below.refl _ _).alloc (Nat.le_refl _) _
  have HB4 := Lib.hid (HB3.out.trans (hb3.mono HB3.out.size))
  have HK4 := Lib.hid (HK3.out.below hb3)
  have HL4 := Lib.hid (HL3.out.below hb3)
  clear hb3 HB3 HK3 HL3
  go_wp2_with fail
  refine (eqMarks_call (ca := cap1) (cb := 2) HK4.out HA2.out).mono ?_
  rintro e w3 ⟨rfl, hb4⟩
  rw [show decide (bm [97, 42] = bm [97, 42]) = true by decide]
  have HB5 := Lib.hid (HB4.out.trans (hb4.mono HB4.out.size))
  have HL5 := Lib.hid (HL4.out.below hb4)
  clear hb4 HA2 HB4 HK4 HL4
  have HA3 := Lib.hid (BtIn.made (W := w3.alloc (.cells #[.int .u8 97, .int .u8 92, .int .u8 47] 5 (3, 4))) (g := w3.heap.size) (L := [97, 92, 47]) (heap_alloc_new _ _) (by decide))
  have hb5 : Below w3.heap.size w3 (w3.alloc (.cells #[.int .u8 97, .int .u8 92, .int .u8 47] 5 (3, 4))) := (Below.refl _ _).alloc (Nat.le_refl _) _
  have HB6 := Lib.hid (HB5.out.trans (hb5.mono HB5.out.size))
  have HL6 := Lib.hid (HL5.out.below hb5)
  clear hb5 HB5 HL5
  have hcv := Lib.run_convert_bytes_const (P := Tryz.prog) w3 71 5 #[.int .u8 97, .int .u8 92, .int .u8 47] 3 3 Tryz.underlying71 Tryz.underlying5
  rw [show (#[Value.int .u8 97, .int .u8 92, .int .u8 47] : Array Value).size = 3 from rfl] at hcv
  go_wp2_with fail
  refine (eqBytes_call (ca := cap2) (cb := 3) HL6.out HA3.out).mono ?_
  rintro e w4 ⟨rfl, hb6⟩
  rw [show decide (([97, 92, 47] : List Nat) = [97, 92, 47]) = true by decide]
  have HB7 := Lib.hid (HB6.out.trans (hb6.mono HB6.out.size))
  clear hb6
  go_wp2_with fail
  go_ret
  exact ⟨rfl, HB7.out⟩
end Go.Proofs.YtbdjcmhfcdamiaaGreatDoor
