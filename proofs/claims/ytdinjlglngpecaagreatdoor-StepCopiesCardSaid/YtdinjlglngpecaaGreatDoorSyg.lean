/- Contract: works. No condition. -/
import Derived.Test.YtdinjlglngpecaaGreatDoorSyd
import Derived.Test.YtdinjlglngpecaaGreatDoorSye
import Derived.Test.YtdinjlglngpecaaGreatDoorSyf
import Derived.Deep.LoopGhost
namespace Go.Proofs.YtdinjlglngpecaaGreatDoor
open Go.RowKit

section
variable {w w' : World}
theorem lit_bt (w : World) {C : Array Value} {T : List Nat} (hC : C.toList = u8s T) (f : Nat × Nat) : BtM (w.alloc (.cells C 5 f)) (some ⟨w.heap.size, 0, none⟩) T := fun _ => ⟨w.heap.size, 0, rfl, new_lt _ _, fun i b hi => by
  rw [cell_of_row _ _ (0 + i) _ _ f (heap_alloc_new w _), Nat.zero_add, ← Array.getElem?_toList, hC]
  simp [u8s, hi]⟩
theorem StS.first {k : CK} {base : Nat} {mu : Bool} {oa : Option Addr} {m ca : Nat} (hm : MaS w k ⟨false, -1, 0, 0, 0, false⟩ [] none) (hw : WlM w k.wb base mu oa m ca 0 0 0 (fun _ => none) []) (hb : k.wb < base) (hq : base ≤ k.qb) : StS w k ⟨false, -1, 0, 0, 0, false⟩ [] none base mu oa m ca 0 0 0 (fun _ => none) [] :=
  ⟨hm, hw, hb, hq, fun x hx => by obtain ⟨i, _, e⟩ := hx; cases e⟩
set_option maxRecDepth 100000 in
set_option maxHeartbeats 12800000 in
theorem works_call : Calls Tryz.prog 5 #[] w fun e w' => e = .returned (.bool true) ∧ Below w.heap.size w w' := by
  have hcv := Lib.run_convert_bytes_const (P := Tryz.prog) w 33 5 #[.int .u8 97, .int .u8 98] 2 2 Tryz.underlying33 Tryz.underlying5
  rw [show (#[Value.int .u8 97, .int .u8 98] : Array Value).size = 2 from rfl] at hcv
  go_enter Tryz.func5, Tryz.ntmps5
  go_upto_region 2 with fail
  clear hcv
  have e1 : (w.alloc (.cells #[.int .u8 97, .int .u8 98] 5 (2, 3))).heap.size = w.heap.size + 1 := by simp
  have h1 : ∀ j, (w.alloc (.cells #[.int .u8 97, .int .u8 98] 5 (2, 3))).cell? ⟨w.heap.size, j, none⟩ = (#[.int .u8 97, .int .u8 98] : Array Value)[j]? := fun j => cell_of_row _ _ j _ _ (2, 3) (heap_alloc_new w _)
  have b1 : Below w.heap.size w (w.alloc (.cells #[.int .u8 97, .int .u8 98] 5 (2, 3))) := (Below.refl _ _).alloc (Nat.le_refl _) _
  obtain ⟨W1, hW1⟩ : ∃ V, w.alloc (.cells #[.int .u8 97, .int .u8 98] 5 (2, 3)) = V := ⟨_, rfl⟩
  rw [hW1] at e1 h1 b1 ⊢
  have h2 := new_cell W1 #[.slice (some ⟨w.heap.size, 0, none⟩) 2 2] 33 0
  have b2 : Below W1.heap.size W1 (W1.alloc (.cells #[.slice (some ⟨w.heap.size, 0, none⟩) 2 2] 33)) := (Below.refl _ _).alloc (Nat.le_refl _) _
  have e2 : (W1.alloc (.cells #[.slice (some ⟨w.heap.size, 0, none⟩) 2 2] 33)).heap.size = w.heap.size + 1 + 1 := by simp [e1]
  obtain ⟨W2, hW2⟩ : ∃ V, W1.alloc (.cells #[.slice (some ⟨w.heap.size, 0, none⟩) 2 2] 33) = V := ⟨_, rfl⟩
  rw [hW2] at h2 b2 e2 ⊢
  rw [e1] at h2
  obtain ⟨d, hd⟩ : ∃ d, w.heap.size = d := ⟨_, rfl⟩
  have HD := Lib.hid hd
  rw [hd] at e1 e2 h1 h2 b1 ⊢
  have hwl := WlM.anew W2 (d + 3) false (some ⟨d + 1, 0, none⟩) 1 1
  have b3 : Below W2.heap.size W2 (W2.alloc (.cells (wlArr false (some ⟨d + 1, 0, none⟩) 1 1) 42)) := (Below.refl _ _).alloc (Nat.le_refl _) _
  have e3 : (W2.alloc (.cells (wlArr false (some ⟨d + 1, 0, none⟩) 1 1) 42)).heap.size = d + 3 := by simp [e2]
  rw [e2] at hwl
  have hln : LnB (W2.alloc (.cells (wlArr false (some ⟨d + 1, 0, none⟩) 1 1) 42)) (d + 2) (some ⟨d + 1, 0, none⟩) [⟨some ⟨d, 0, none⟩, 2, [97, 98]⟩] := fun _ => ⟨d + 1, 0, rfl, by omega, fun i l hl => by
    obtain rfl : i = 0 := by have := (List.getElem?_eq_some_iff.1 hl).1; simp at this; omega
    cases hl
    refine ⟨(b3.cell (p := ⟨d + 1, 0, none⟩) (by show d + 1 < _; omega)).trans h2, (show 2 ≤ 140737488355328 by decide), fun _ => ⟨d, 0, rfl, by omega, fun j c hj => ?_⟩⟩
    refine (b3.cell (p := ⟨d, 0 + j, none⟩) (by show d < _; omega)).trans ((b2.cell (p := ⟨d, 0 + j, none⟩) (by show d < _; omega)).trans ((h1 (0 + j)).trans ?_))
    rw [Nat.zero_add]
    have hj2 := (List.getElem?_eq_some_iff.1 hj).1
    simp only [List.length_cons, List.length_nil] at hj2
    rcases (show j = 0 ∨ j = 1 by omega) with rfl | rfl <;> cases hj <;> rfl⟩
  obtain ⟨W3, hW3⟩ : ∃ V, W2.alloc (.cells (wlArr false (some ⟨d + 1, 0, none⟩) 1 1) 42) = V := ⟨_, rfl⟩
  have bb : Below d w (W2.alloc (.cells (wlArr false (some ⟨d + 1, 0, none⟩) 1 1) 42)) := (b1.trans (b2.mono (by omega))).trans (b3.mono (by omega))
  rw [hW3] at hwl hln e3 bb
  unfold wlArr at hW3
  rw [hW3]
  have HWL := Lib.hid hwl
  have HLN := Lib.hid hln
  have HE3 := Lib.hid e3
  have HBB := Lib.hid bb
  clear hW1 hW2 hW3 e1 h1 h2 b1 bb b2 e2 b3 e3 hwl hln hd
  have HPR := Lib.hid (prints_call (w := W3))
  go_wp2_with fail
  refine HPR.out.mono ?_; rintro e w4 ⟨⟨nb, g, rfl, hr, hnb, hg⟩, hb4⟩
  have HNW := Lib.hid (snew_call (w := w4) (nc := 1) (oc := some ⟨nb, 0, none⟩) (ot := some ⟨g, 0, none⟩) (cc := 1) (ct := 1) (l := pcs) (.inr ⟨rfl, PcV.mine, nb, 0, g, 0, rfl, rfl, hr, hnb, hg⟩) (fun e => by cases e) false (d + 1 + 1))
  have HWL4 := Lib.hid (HWL.out.below hb4)
  have HLN4 : Hid (LnB w4 (d + 2) (some ⟨d + 1, 0, none⟩) [⟨some ⟨d, 0, none⟩, 2, [97, 98]⟩]) := Lib.hid (HLN.out.below (hb4.mono (by have := HE3.out; omega)))
  have HE4 : Hid (d + 3 ≤ w4.heap.size) := Lib.hid (by have := HE3.out; have := hb4.size; omega)
  have HBB4 := Lib.hid (HBB.out.trans (hb4.mono (by have := HE3.out; omega)))
  clear hr hnb hg hb4 HPR HWL HLN HE3
  go_wp2_with fail
  refine HNW.out.mono ?_; rintro e w5 ⟨⟨k, rfl, hma, hkw, hkn, hkq, hkb⟩, hb5⟩
  have hwl5 := HWL4.out.below hb5
  rw [show d + 1 + 1 = k.wb by rw [hkw]] at hwl5
  have HST := Lib.hid (StS.first hma hwl5 (by omega) (by have := HE4.out; omega))
  have HLN5 := Lib.hid (HLN4.out.below (hb5.mono (by have := HE4.out; omega)))
  have HMA := Lib.hid hma
  have HK := Lib.hid (And.intro hkw (And.intro hkn hkq))
  have HAT := Lib.hid (at_call hma)
  have HBB5 := Lib.hid (HBB4.out.trans (hb5.mono (by have := HE4.out; omega)))
  clear hma hkw hkn hkq hkb hb5 hwl5 HNW HWL4 HLN4 HE4
  go_wp2_with fail
  refine HAT.out.mono ?_; rintro e wq ⟨rfl, hwq⟩
  subst hwq
  go_wp2_with fail
  have HW0 : Hid (WkR w5 k (d + 3) (some ⟨d + 1, 0, none⟩) 0) := Lib.hid ⟨_, _, _, _, _, _, _, _, HST.out, rfl, by decide, by decide, by decide, .inl ⟨rfl, rfl, rfl, rfl, rfl⟩⟩
  clear HAT HST HMA
  go_loopg [0, 4] 5 (fun gk rv iv wr => rv = .bool false ∧ ∃ i : Nat, iv = .int .i64 (i : Nat) ∧ gk = 5 - i ∧ i ≤ 4 ∧ WkR wr k (d + 3) (some ⟨d + 1, 0, none⟩) i ∧ Below (d + 2) w5 wr)
  case atStart => exact ⟨rfl, 0, rfl, rfl, by decide, HW0.out, Below.refl _ _⟩
  case round =>
  obtain ⟨rfl, i, rfl, hgk, hi4, hwk, hbw⟩ := hrel
  have HGK := Lib.hid hgk
  have HWK := Lib.hid hwk
  have HBW := Lib.hid hbw
  clear hgk hwk hbw
  by_cases hi : i < 4
  · have hi' : (i : Int) < 4 := by omega
    have HSTP := Lib.hid (wk_step HWK.out hi HK.out.2.1 HK.out.2.2 (by have := HK.out.1; omega) (HLN5.out.below HBW.out) rfl)
    clear hi4
    go_wp2_with fail
    refine HSTP.out.mono ?_; rintro e w6 ⟨rfl, hwk6, hb6⟩
    have HWK6 := Lib.hid hwk6
    have HB6 := Lib.hid (HBW.out.trans hb6)
    clear hwk6 hb6 HSTP
    go_wp2_with fail
    go_roundg (5 - (i + 1))
    case measure => have := HGK.out; omega
    case rel => exact ⟨rfl, i + 1, by go_num, rfl, by omega, HWK6.out, HB6.out⟩
  obtain rfl : i = 4 := by omega
  clear hi hi4
  obtain ⟨s, T, pk, n, u, z, O, A, hs, _, _, _, _, hc⟩ := HWK.out
  obtain ⟨hp, rfl, rfl, hst, rfl⟩ : s.pl = -2 ∧ n = 1 ∧ A = [97, 98, 10, 97, 98, 10] ∧ s.st = 1 ∧ T = [97, 98] := by
    rcases hc with ⟨h, _⟩ | ⟨h, _⟩ | ⟨h, _⟩ | ⟨h, _⟩ | ⟨_, h⟩
    · cases h
    · cases h
    · cases h
    · cases h
    · exact h
  clear hc
  have HBR := Lib.hid (HBB5.out.trans (HBW.out.mono (by omega)))
  have HDR : Hid (d ≤ wr.heap.size) := Lib.hid (by have := hs.wl.lt; have := HK.out.1; omega)
  have HS := Lib.hid hs
  have hat := at_call hs.ma
  rw [hp] at hat
  have HAT := Lib.hid hat
  have hsc := steps_call hs.ma
  rw [hst] at hsc
  have HSC := Lib.hid hsc
  obtain ⟨v19, k19, cs19, q1, q2, q3, q4, _⟩ := hs.wl.rows 19 (by simp [rowsL])
  obtain ⟨rfl, rfl⟩ := q4 rfl
  obtain ⟨oA, cA, rfl⟩ := own_form q2
  rw [HK.out.1] at q1
  have HQ1 := Lib.hid q1
  have HQ2 := Lib.hid q2
  clear hs hat hsc q2 q3 q4 hp hst
  have hbl : d + 1 + 1 < wr.heap.size := by have := HS.out.wl.lt; have := HK.out.1; omega
  have hcv := Lib.run_convert_bytes_const (P := Tryz.prog) wr 33 5 #[.int .u8 97, .int .u8 98, .int .u8 10, .int .u8 97, .int .u8 98, .int .u8 10] 6 6 Tryz.underlying33 Tryz.underlying5
  rw [show (#[Value.int .u8 97, .int .u8 98, .int .u8 10, .int .u8 97, .int .u8 98, .int .u8 10] : Array Value).size = 6 from rfl] at hcv
  go_wp2_with fail
  refine HAT.out.mono ?_; rintro e wq ⟨rfl, hwq⟩
  subst hwq
  go_wp2_with fail
  refine HSC.out.mono ?_; rintro e wq ⟨rfl, hwq⟩
  subst hwq
  replace q1 : wr.cell? ⟨d + 1 + 1, 19, none⟩ = some (.slice oA 6 cA) := q1
  have hba : Below wr.heap.size wr (wr.alloc (.cells #[.int .u8 97, .int .u8 98, .int .u8 10, .int .u8 97, .int .u8 98, .int .u8 10] 5 (6, 7))) := (Below.refl _ _).alloc (Nat.le_refl _) _
  have HEQ := Lib.hid (eqBytesU (ca := cA) (cb := 6) (T := [97, 98, 10, 97, 98, 10]) ((BtM.of_src (Src.own HQ2.out)).below hba) (lit_bt wr (C := #[.int .u8 97, .int .u8 98, .int .u8 10, .int .u8 97, .int .u8 98, .int .u8 10]) rfl (6, 7)) (by decide))
  have HSA := Lib.hid (HS.out.ma.below hba)
  clear hba HQ1 HQ2 HS HAT HSC HWK HBW HGK
  go_wp2_with fail
  refine HEQ.out.mono ?_; rintro e w8 ⟨rfl, hb8⟩
  have hba8 : Below wr.heap.size wr (wr.alloc (.cells #[.int .u8 97, .int .u8 98, .int .u8 10, .int .u8 97, .int .u8 98, .int .u8 10] 5 (6, 7))) := (Below.refl _ _).alloc (Nat.le_refl _) _
  have HB8 := Lib.hid ((HBR.out.trans (hba8.mono HDR.out)).trans (hb8.mono (Nat.le_trans HDR.out hba8.size)))
  have HD8 : Hid (d ≤ w8.heap.size) := Lib.hid (Nat.le_trans HDR.out (Nat.le_trans hba8.size hb8.size))
  clear hba8
  have hma8 := HSA.out.below hb8
  have HMP := Lib.hid (mpattern_call hma8)
  clear hcv q1 hbl hb8 hma8 HEQ HSA
  go_wp2_with fail
  refine HMP.out.mono ?_; rintro e w9 ⟨⟨v, rfl, hv⟩, hb9⟩
  obtain ⟨o9, k9, rfl⟩ := own_form hv
  have hcv := Lib.run_convert_bytes_const (P := Tryz.prog) w9 33 5 #[.int .u8 97, .int .u8 98] 2 2 Tryz.underlying33 Tryz.underlying5
  rw [show (#[Value.int .u8 97, .int .u8 98] : Array Value).size = 2 from rfl] at hcv
  have hba : Below w9.heap.size w9 (w9.alloc (.cells #[.int .u8 97, .int .u8 98] 5 (2, 3))) := (Below.refl _ _).alloc (Nat.le_refl _) _
  have HEQ := Lib.hid (eqBytesU (ca := k9) (cb := 2) (T := [97, 98]) ((BtM.of_src (Src.own hv)).below hba) (lit_bt w9 (C := #[.int .u8 97, .int .u8 98]) rfl (2, 3)) (by decide))
  have HB9 := Lib.hid ((HB8.out.trans (hb9.mono HD8.out)).trans (hba.mono (Nat.le_trans HD8.out hb9.size)))
  have HD9 : Hid (d ≤ (w9.alloc (.cells #[.int .u8 97, .int .u8 98] 5 (2, 3))).heap.size) := Lib.hid (Nat.le_trans HD8.out (Nat.le_trans hb9.size hba.size))
  clear hba hv hb9 HMP
  go_wp2_with fail
  refine HEQ.out.mono ?_; rintro e w10 ⟨rfl, hb10⟩
  have HB10 := Lib.hid (HB9.out.trans (hb10.mono HD9.out))
  clear hb10
  go_wp2_with fail
  go_ret
  exact ⟨rfl, HD.out.symm ▸ HB10.out⟩
end
end Go.Proofs.YtdinjlglngpecaaGreatDoor
