/- The law StepCopies, walked. No condition. -/
import Derived.Test.YtdinjlglngpecaaGreatDoorSyh
namespace Go.Proofs.YtdinjlglngpecaaGreatDoor
open Go.RowKit

section
variable {w w' : World} {oa : Option Addr} {m ca : Nat} {LL : List Lin}
set_option maxRecDepth 100000 in
set_option maxHeartbeats 25600000 in
theorem copies26_all (h : LnM w oa LL) (hm : LL.length = m) (hz : m * 24 ≤ 140737488355328) :
    Calls Tryz.prog 3 #[.slice oa m ca] w fun e w' => e = .returned (.bool true) ∧ Below w.heap.size w w' := by
  have hba : Below w.heap.size w (w.alloc (.cells #[.slice oa m ca, .slice none 0 0, .int .i64 0, .int .i64 0, .bool false] 26)) := (Below.refl _ _).alloc (Nat.le_refl _) _
  have HL1 := Lib.hid (h.below hba)
  have HBA := Lib.hid hba
  have hc : ∀ j, (w.alloc (.cells #[.slice oa m ca, .slice none 0 0, .int .i64 0, .int .i64 0, .bool false] 26)).cell? ⟨w.heap.size, j, none⟩ = (#[.slice oa m ca, .slice none 0 0, .int .i64 0, .int .i64 0, .bool false] : Array Value)[j]? := fun j => new_cell _ _ _ j
  have r0 : (w.alloc (.cells #[.slice oa m ca, .slice none 0 0, .int .i64 0, .int .i64 0, .bool false] 26)).cell? ⟨w.heap.size, 0, none⟩ = some (.slice oa m ca) := hc 0
  have r1 : (w.alloc (.cells #[.slice oa m ca, .slice none 0 0, .int .i64 0, .int .i64 0, .bool false] 26)).cell? ⟨w.heap.size, 1, none⟩ = some (.slice none 0 0) := hc 1
  have r2 : (w.alloc (.cells #[.slice oa m ca, .slice none 0 0, .int .i64 0, .int .i64 0, .bool false] 26)).cell? ⟨w.heap.size, 2, none⟩ = some (.int .i64 0) := hc 2
  have r3 : (w.alloc (.cells #[.slice oa m ca, .slice none 0 0, .int .i64 0, .int .i64 0, .bool false] 26)).cell? ⟨w.heap.size, 3, none⟩ = some (.int .i64 0) := hc 3
  have r4 : (w.alloc (.cells #[.slice oa m ca, .slice none 0 0, .int .i64 0, .int .i64 0, .bool false] 26)).cell? ⟨w.heap.size, 4, none⟩ = some (.bool false) := hc 4
  have hl := new_lt w (.cells #[.slice oa m ca, .slice none 0 0, .int .i64 0, .int .i64 0, .bool false] 26)
  have HM := Lib.hid hm
  have HZ : Hid (m ≤ 5864062014806) := Lib.hid (by omega)
  clear h hm hz hba hc
  go_enter Tryz.func3, Tryz.ntmps3
  go_upto_region 2 with fail
  obtain ⟨W, hW⟩ : ∃ W, w.alloc (.cells #[.slice oa m ca, .slice none 0 0, .int .i64 0, .int .i64 0, .bool false] 26) = W := ⟨_, rfl⟩
  rw [hW] at HL1 HBA r0 r1 r2 r3 r4 hl ⊢
  clear hW
  obtain ⟨c, hcz⟩ : ∃ c, w.heap.size = c := ⟨_, rfl⟩
  rw [hcz] at r0 r1 r2 r3 r4 hl ⊢
  clear hcz
  have HLG := Lib.hid (long_call (ca := ca) HL1.out HM.out HZ.out)
  go_wp2_with fail
  refine HLG.out.mono ?_; rintro e w0 ⟨⟨R, rfl, hR⟩, hb0⟩
  have HL0 := Lib.hid (HL1.out.below hb0)
  have HR := Lib.hid hR
  have HB0 := Lib.hid (HBA.out.trans (hb0.mono HBA.out.size))
  clear hR hb0 HLG HL1 r0 r1 r2 r3 r4 hl
  cases R
  case true =>
    go_wp2_with fail
    go_ret
    exact ⟨rfl, HB0.out⟩
  have HT : Hid (m + totL LL m ≤ 2147483647) := Lib.hid (HR.out rfl)
  have HF : Hid (∀ nc q i, (outL nc q (LL.map (·.T)) i).length ≤ 4294967294) := Lib.hid fun nc q i => Nat.le_trans (outL_le i) (flat_tot HM.out HT.out)
  clear HR
  have hm1 : (m : Int) ≤ 5864062014806 := by have := HZ.out; omega
  go_wp2_with fail
  go_loopg [2, 4, 5, 6] (m + 1) (fun gk rv v4 v5 iv wr => rv = .bool false ∧ ∃ i : Nat, iv = .int .i64 (i : Nat) ∧ gk = m + 1 - i ∧ i ≤ m ∧ CpR w0 wr v4 v5 (outL 0 false (LL.map (·.T)) i) (outL 1 false (LL.map (·.T)) i) ∧ ∀ j, j < i → ∀ l, LL[j]? = some l → l.T.length ≤ 1048576)
  case atStart => exact ⟨rfl, 0, rfl, rfl, by omega, ⟨Below.refl _ _, World.ownsRow_nil _ _ _ _, World.ownsRow_nil _ _ _ _, fun x hx => by cases hx⟩, fun j hj => by omega⟩
  case round =>
  obtain ⟨rfl, i, rfl, hgk, him, hcp, hsm⟩ := hrel
  have HGK := Lib.hid hgk
  have HCP := Lib.hid hcp
  have HSM := Lib.hid hsm
  clear hgk hcp hsm
  by_cases hi : i < m
  · have hi' : (i : Int) < (m : Int) := by omega
    have HI := Lib.hid hi
    have HLR := Lib.hid (HL0.out.below HCP.out.be)
    obtain ⟨l, hlg⟩ : ∃ l, LL[i]? = some l := ⟨LL[i]'(by have := HM.out; omega), List.getElem?_eq_getElem _⟩
    obtain ⟨nb, no, hoa, hnb, hcell⟩ := HLR.out (by have := HM.out; omega)
    obtain ⟨e1, e2, e3, _⟩ := hcell i l hlg
    have HLG := Lib.hid hlg
    have HE1 := Lib.hid e1
    have HOA := Lib.hid hoa
    have HNB := Lib.hid hnb
    have hci : wr.cell? ⟨nb, no + i, none⟩ = some (.slice l.ob l.T.length l.cb) := e1
    obtain ⟨lob, lcb, T⟩ := l
    dsimp only at e1 e2 e3 hci
    have HBT := Lib.hid e2
    have ht1 : (T.length : Int) ≤ 140737488355328 := by omega
    clear e1 e2 e3 hcell hlg him hi hnb
    subst hoa
    by_cases hbig : 1048576 < T.length
    · have hb' : (1048576 : Int) < (T.length : Int) := by omega
      have HWK := Lib.hid (works_call (w := wr))
      have hnb := HNB.out
      go_wp2_with fail
      refine HWK.out.mono ?_; rintro e w9 ⟨rfl, hb9⟩
      have HB9 := Lib.hid ((HB0.out.trans (HCP.out.be.mono HB0.out.size)).trans (hb9.mono (Nat.le_trans HB0.out.size HCP.out.be.size)))
      clear hb9
      go_wp2_with fail
      go_ret
      exact ⟨rfl, HB9.out⟩
    have hb' : ¬ (1048576 : Int) < (T.length : Int) := by omega
    have HTL : Hid (T.length ≤ 1048576) := Lib.hid (by omega)
    have hnb := HNB.out
    clear hbig
    have HCI : Hid (∀ wq, Below w0.heap.size w0 wq → wq.cell? ⟨nb, no + i, none⟩ = some (.slice lob T.length lcb) ∧ nb < wq.heap.size ∧ Src wq (.slice lob T.length lcb) T.length (u8s T)) := Lib.hid fun wq hq => by
      have hl := HL0.out.below hq
      obtain ⟨nb2, no2, ho2, hnb2, hc2⟩ := hl (by have := HM.out; have := HI.out; omega)
      cases ho2
      obtain ⟨q1, _, _, _, q2⟩ := hc2 i _ HLG.out
      exact ⟨q1, hnb2, q2⟩
    obtain ⟨A0, hA0⟩ : ∃ A0, outL 0 false (LL.map (·.T)) i = A0 := ⟨_, rfl⟩
    obtain ⟨B0, hB0⟩ : ∃ B0, outL 1 false (LL.map (·.T)) i = B0 := ⟨_, rfl⟩
    have HA0 : Hid (A0.length ≤ 4294967294) := Lib.hid (hA0 ▸ HF.out 0 false i)
    have HB0 : Hid (B0.length ≤ 4294967294) := Lib.hid (hB0 ▸ HF.out 1 false i)
    rw [hA0, hB0] at HCP
    have HEA := Lib.hid hA0
    have HEB := Lib.hid hB0
    clear hA0 hB0 HE1 HBT HLR HNB HOA
    go_wp2_with fail
    clear hci hnb
    go_loopg [4, 5, 7] 4 (fun gk v4 v5 kv wr2 => ∃ k : Nat, kv = .int .i64 (k : Nat) ∧ gk = 4 - k ∧ k ≤ 3 ∧ ((k = 0 ∧ CpR w0 wr2 v4 v5 A0 B0) ∨ (k = 1 ∧ CpR w0 wr2 v4 v5 (A0 ++ (T ++ [10])) B0) ∨ (k = 2 ∧ CpR w0 wr2 v4 v5 (A0 ++ (T ++ [10])) (B0 ++ (T ++ [10]))) ∨ (k = 3 ∧ CpR w0 wr2 v4 v5 (A0 ++ (T ++ [10])) ((B0 ++ (T ++ [10])) ++ (T ++ [10])))))
    case atStart => exact ⟨0, rfl, rfl, by decide, .inl ⟨rfl, HCP.out⟩⟩
    case round =>
    obtain ⟨k, rfl, hgk2, _, hcs⟩ := hrel
    have HGK2 := Lib.hid hgk2
    clear hgk2
    rename World => wr2
    rcases hcs with ⟨rfl, hc⟩ | ⟨rfl, hc⟩ | ⟨rfl, hc⟩ | ⟨rfl, hc⟩
    · have HC := Lib.hid hc
      have HXB := HA0
      clear hc
      obtain ⟨oq, cq, rfl⟩ := own_form HC.out.r4
      have hci := (HCI.out wr2 HC.out.be).1
      have hnb := (HCI.out wr2 HC.out.be).2.1
      have HSR := Lib.hid (HCI.out wr2 HC.out.be).2.2
      go_wp2_with (at_builtin; refine wpList_app elU8 rfl _ _ rfl w0.heap.size (n := A0.length) (m := T.length) (news := u8s T) rfl HC.out.r4 rfl HSR.out (by simp [u8s]) (u8s_one T) (by have := HXB.out; have := HTL.out; unfold maxLen; omega) (by have := HXB.out; have := HTL.out; omega) HC.out.be.size ?_)
      intro v6 w6 ho6 hg6 hr6
      have HC6 := Lib.hid (HC.out.app (X := T) hg6 ho6 hr6)
      obtain ⟨o6, c6, rfl⟩ := own_form ho6
      have HC7 := Lib.hid (HC6.out.below ((Below.refl w6.heap.size w6).alloc (Nat.le_refl _) (.cells #[.int .u8 ((10 : Nat) : Nat)] 5)))
      have hr7 := HC7.out.r4
      rw [List.length_append] at hr7
      have HR7 := Lib.hid hr7
      clear hci hnb ho6 hg6 hr6 HSR hr7
      go_wp2_with (at_builtin; refine wpList_app elU8 rfl _ _ rfl w0.heap.size (n := A0.length + T.length) (m := 1) (news := [.int .u8 ((10 : Nat) : Nat)]) rfl HR7.out rfl (Src.new w6 [.int .u8 ((10 : Nat) : Nat)] _ _ _) rfl (by simp [Value.oneCell']) (by have := HXB.out; have := HTL.out; unfold maxLen; omega) (by have := HXB.out; have := HTL.out; omega) HC7.out.be.size ?_)
      intro v8 w8 ho8 hg8 hr8
      have HC8 := Lib.hid (HC7.out.app (X := [10]) hg8 (by rw [List.length_append]; exact ho8) (hr8.imp id fun e => e.trans (by simp)))
      rw [List.append_assoc] at HC8
      obtain ⟨o8, c8, rfl⟩ := own_form ho8
      clear ho8 hg8 hr8
      go_wp2_with fail
      go_roundg 3
      case measure => have := HGK2.out; omega
      case rel => exact ⟨1, rfl, rfl, by decide, .inr (.inl ⟨rfl, HC8.out⟩)⟩
    · obtain ⟨A1, hA1⟩ : ∃ A1, A0 ++ (T ++ [10]) = A1 := ⟨_, rfl⟩
      rw [hA1] at hc
      have HA1 := Lib.hid hA1
      have HC := Lib.hid hc
      have HXB := HB0
      clear hc hA1
      obtain ⟨oq, cq, rfl⟩ := own_form HC.out.swap.r4
      have hci := (HCI.out wr2 HC.out.be).1
      have hnb := (HCI.out wr2 HC.out.be).2.1
      have HSR := Lib.hid (HCI.out wr2 HC.out.be).2.2
      go_wp2_with (at_builtin; refine wpList_app elU8 rfl _ _ rfl w0.heap.size (n := B0.length) (m := T.length) (news := u8s T) rfl HC.out.swap.r4 rfl HSR.out (by simp [u8s]) (u8s_one T) (by have := HXB.out; have := HTL.out; unfold maxLen; omega) (by have := HXB.out; have := HTL.out; omega) HC.out.be.size ?_)
      intro v6 w6 ho6 hg6 hr6
      have HC6 := Lib.hid (HC.out.swap.app (X := T) hg6 ho6 hr6)
      obtain ⟨o6, c6, rfl⟩ := own_form ho6
      have HC7 := Lib.hid (HC6.out.below ((Below.refl w6.heap.size w6).alloc (Nat.le_refl _) (.cells #[.int .u8 ((10 : Nat) : Nat)] 5)))
      have hr7 := HC7.out.r4
      rw [List.length_append] at hr7
      have HR7 := Lib.hid hr7
      clear hci hnb ho6 hg6 hr6 HSR hr7
      go_wp2_with (at_builtin; refine wpList_app elU8 rfl _ _ rfl w0.heap.size (n := B0.length + T.length) (m := 1) (news := [.int .u8 ((10 : Nat) : Nat)]) rfl HR7.out rfl (Src.new w6 [.int .u8 ((10 : Nat) : Nat)] _ _ _) rfl (by simp [Value.oneCell']) (by have := HXB.out; have := HTL.out; unfold maxLen; omega) (by have := HXB.out; have := HTL.out; omega) HC7.out.be.size ?_)
      intro v8 w8 ho8 hg8 hr8
      have HC8 := Lib.hid (HC7.out.app (X := [10]) hg8 (by rw [List.length_append]; exact ho8) (hr8.imp id fun e => e.trans (by simp)))
      rw [List.append_assoc] at HC8
      obtain ⟨o8, c8, rfl⟩ := own_form ho8
      clear ho8 hg8 hr8
      go_wp2_with fail
      go_roundg 2
      case measure => have := HGK2.out; omega
      case rel => exact ⟨2, rfl, rfl, by decide, .inr (.inr (.inl ⟨rfl, by rw [HA1.out]; exact HC8.out.swap⟩))⟩
    · obtain ⟨A1, hA1⟩ : ∃ A1, A0 ++ (T ++ [10]) = A1 := ⟨_, rfl⟩
      obtain ⟨B1, hB1⟩ : ∃ B1, B0 ++ (T ++ [10]) = B1 := ⟨_, rfl⟩
      rw [hA1, hB1] at hc
      have HA1 := Lib.hid hA1
      have HB1 := Lib.hid hB1
      have HXB : Hid (B1.length ≤ 4294967294 + 1048577) := Lib.hid (by rw [← hB1]; have := HB0.out; have := HTL.out; simp; omega)
      have HC := Lib.hid hc
      clear hc hA1 hB1
      obtain ⟨oq, cq, rfl⟩ := own_form HC.out.swap.r4
      have hci := (HCI.out wr2 HC.out.be).1
      have hnb := (HCI.out wr2 HC.out.be).2.1
      have HSR := Lib.hid (HCI.out wr2 HC.out.be).2.2
      go_wp2_with (at_builtin; refine wpList_app elU8 rfl _ _ rfl w0.heap.size (n := B1.length) (m := T.length) (news := u8s T) rfl HC.out.swap.r4 rfl HSR.out (by simp [u8s]) (u8s_one T) (by have := HXB.out; have := HTL.out; unfold maxLen; omega) (by have := HXB.out; have := HTL.out; omega) HC.out.be.size ?_)
      intro v6 w6 ho6 hg6 hr6
      have HC6 := Lib.hid (HC.out.swap.app (X := T) hg6 ho6 hr6)
      obtain ⟨o6, c6, rfl⟩ := own_form ho6
      have HC7 := Lib.hid (HC6.out.below ((Below.refl w6.heap.size w6).alloc (Nat.le_refl _) (.cells #[.int .u8 ((10 : Nat) : Nat)] 5)))
      have hr7 := HC7.out.r4
      rw [List.length_append] at hr7
      have HR7 := Lib.hid hr7
      clear hci hnb ho6 hg6 hr6 HSR hr7
      go_wp2_with (at_builtin; refine wpList_app elU8 rfl _ _ rfl w0.heap.size (n := B1.length + T.length) (m := 1) (news := [.int .u8 ((10 : Nat) : Nat)]) rfl HR7.out rfl (Src.new w6 [.int .u8 ((10 : Nat) : Nat)] _ _ _) rfl (by simp [Value.oneCell']) (by have := HXB.out; have := HTL.out; unfold maxLen; omega) (by have := HXB.out; have := HTL.out; omega) HC7.out.be.size ?_)
      intro v8 w8 ho8 hg8 hr8
      have HC8 := Lib.hid (HC7.out.app (X := [10]) hg8 (by rw [List.length_append]; exact ho8) (hr8.imp id fun e => e.trans (by simp)))
      rw [List.append_assoc] at HC8
      obtain ⟨o8, c8, rfl⟩ := own_form ho8
      clear ho8 hg8 hr8
      go_wp2_with fail
      go_roundg 1
      case measure => have := HGK2.out; omega
      case rel => exact ⟨3, rfl, rfl, by decide, .inr (.inr (.inr ⟨rfl, by rw [HA1.out, HB1.out]; exact HC8.out.swap⟩))⟩
    · have HC := Lib.hid hc
      clear hc
      have hib : (i : Int) ≤ 5864062014806 := by have := HI.out; have := HZ.out; omega
      have hsu0 := outL_succ (nc := 0) (q := false) (TT := LL.map (·.T)) (n := i) (T := T) (by rw [List.getElem?_map, HLG.out]; rfl)
      have hsu1 := outL_succ (nc := 1) (q := false) (TT := LL.map (·.T)) (n := i) (T := T) (by rw [List.getElem?_map, HLG.out]; rfl)
      rw [HEA.out] at hsu0
      rw [HEB.out] at hsu1
      have HS0 : Hid (outL 0 false (LL.map (·.T)) (i + 1) = A0 ++ (T ++ [10])) := Lib.hid hsu0
      have HS1 : Hid (outL 1 false (LL.map (·.T)) (i + 1) = (B0 ++ (T ++ [10])) ++ (T ++ [10])) := Lib.hid (by rw [hsu1, List.append_assoc]; rfl)
      clear hsu0 hsu1
      go_wp2_with fail
      go_roundg (m + 1 - (i + 1))
      case measure => have := HGK.out; have := HI.out; omega
      case rel => exact ⟨rfl, i + 1, by go_num, rfl, HI.out, by rw [HS0.out, HS1.out]; exact HC.out, fun j hj l hl => by
        rcases Nat.lt_succ_iff_lt_or_eq.1 hj with h | h
        · exact HSM.out j h l hl
        · subst h
          rw [HLG.out] at hl
          cases hl
          exact HTL.out⟩
  obtain rfl : i = m := by omega
  clear hi
  have hii : ¬ (i : Int) < (i : Int) := by omega
  have HSM2 : Hid (∀ l ∈ LL, l.T.length ≤ 1048576) := Lib.hid fun l hl => by
    obtain ⟨j, hj, rfl⟩ := List.getElem_of_mem hl
    exact HSM.out j (by have := HM.out; omega) _ (List.getElem?_eq_getElem hj)
  have HAX : Hid (outL 0 false (LL.map (·.T)) i = (LL.map (·.T)).flatMap (perL 0 false)) := Lib.hid (outL_all (by rw [List.length_map, HM.out]; exact Nat.le_refl _))
  have HBX : Hid (outL 1 false (LL.map (·.T)) i = (LL.map (·.T)).flatMap (perL 1 false)) := Lib.hid (outL_all (by rw [List.length_map, HM.out]; exact Nat.le_refl _))
  rw [HAX.out, HBX.out] at HCP
  have HFL : Hid (∀ nc q, ((LL.map (·.T)).flatMap (perL nc q)).length ≤ 4294967294) := Lib.hid fun nc q => flat_tot HM.out HT.out
  obtain ⟨PA, hPA⟩ : ∃ P, (LL.map (·.T)).flatMap (perL 0 false) = P := ⟨_, rfl⟩
  obtain ⟨PB, hPB⟩ : ∃ P, (LL.map (·.T)).flatMap (perL 1 false) = P := ⟨_, rfl⟩
  rw [hPA, hPB] at HCP
  have HPA := Lib.hid hPA
  have HPB := Lib.hid hPB
  have HPC : Hid ((LL.map (·.T)).flatMap (perL 1 true) = PA) := Lib.hid (by rw [per_quiet]; exact hPA)
  clear hPA hPB HAX HBX HSM him HGK
  have HLB := Lib.hid (lnb_of (HL0.out.below HCP.out.be))
  have HIT : Hid (i ≤ 2147483647) := Lib.hid (by have := HT.out; omega)
  clear HF HZ HT HL0
  go_upto_region 19 with fail
  have b1 : Below wr.heap.size wr (wr.alloc (.cells (wlArr true oa i ca) 42)) := (Below.refl _ _).alloc (Nat.le_refl _) _
  have hw1 := WlM.anew wr (wr.heap.size + 1) true oa i ca
  have hs1 : (wr.alloc (.cells (wlArr true oa i ca) 42)).heap.size = wr.heap.size + 1 := by simp
  obtain ⟨W1, hW1⟩ : ∃ V, wr.alloc (.cells (wlArr true oa i ca) 42) = V := ⟨_, rfl⟩
  rw [hW1] at b1 hw1 hs1
  unfold wlArr at hW1
  rw [hW1]
  clear hW1
  go_upto_region 20 with fail
  have b2 : Below W1.heap.size W1 (W1.alloc (.cells (wlArr true oa i ca) 42)) := (Below.refl _ _).alloc (Nat.le_refl _) _
  have hw2 := WlM.anew W1 (wr.heap.size + 2) true oa i ca
  have hs2 : (W1.alloc (.cells (wlArr true oa i ca) 42)).heap.size = wr.heap.size + 2 := by simp [hs1]
  obtain ⟨W2, hW2⟩ : ∃ V, W1.alloc (.cells (wlArr true oa i ca) 42) = V := ⟨_, rfl⟩
  rw [hW2] at b2 hw2 hs2
  unfold wlArr at hW2
  rw [hW2]
  clear hW2
  go_upto_region 21 with fail
  have b3 : Below W2.heap.size W2 (W2.alloc (.cells (wlArr true oa i ca) 42)) := (Below.refl _ _).alloc (Nat.le_refl _) _
  have hw3 := WlM.anew W2 (wr.heap.size + 3) true oa i ca
  have hs3 : (W2.alloc (.cells (wlArr true oa i ca) 42)).heap.size = wr.heap.size + 3 := by simp [hs2]
  obtain ⟨W3, hW3⟩ : ∃ V, W2.alloc (.cells (wlArr true oa i ca) 42) = V := ⟨_, rfl⟩
  rw [hW3] at b3 hw3 hs3
  unfold wlArr at hW3
  rw [hW3]
  clear hW3
  obtain ⟨h0, hh0⟩ : ∃ h, wr.heap.size = h := ⟨_, rfl⟩
  rw [hs1] at hw2 b2
  rw [hs2] at hw3 b3
  have bw : Below wr.heap.size wr W3 := (b1.trans (b2.mono (by omega))).trans (b3.mono (by omega))
  have HW1 := Lib.hid ((hw1.below (hs1.symm ▸ b2)).below (hs2.symm ▸ b3))
  have HW2 := Lib.hid (hw2.below (hs2.symm ▸ b3))
  have HW3 := Lib.hid hw3
  have HCP3 := Lib.hid (HCP.out.below bw)
  have HLB3 := Lib.hid (HLB.out.below bw)
  have HWR4 : Hid (∀ x, u4.ownBlock = some x → x < h0) := Lib.hid fun x hx => hh0 ▸ (HCP.out.r4.lt x hx).2
  have HWR5 : Hid (∀ x, u5.ownBlock = some x → x < h0) := Lib.hid fun x hx => hh0 ▸ (HCP.out.r5.lt x hx).2
  have HW0 : Hid (w0.heap.size ≤ h0) := Lib.hid (hh0 ▸ HCP.out.be.size)
  have HS3 : Hid (W3.heap.size = h0 + 3) := Lib.hid (hs3.trans (by rw [hh0]))
  rw [hs1, hh0] at *
  clear hs1 hw1 b1 hs2 hw2 b2 hs3 hw3 b3 hh0 bw HCP HLB hii
  have HPR : ∀ W : World, Hid _ := fun W => Lib.hid (prints_call (w := W))
  go_wp2_with fail
  refine (HPR _).out.mono ?_; rintro e w4 ⟨⟨nb, g, rfl, hr, hnb, hg⟩, hb4⟩
  have hpg : PgM w4 1 (some ⟨nb, 0, none⟩) (some ⟨g, 0, none⟩) pcs := .inr ⟨rfl, PcV.mine, nb, 0, g, 0, rfl, rfl, hr, hnb, hg⟩
  have b5 : Below w4.heap.size w4 (w4.alloc (.cells #[.slice (some ⟨nb, 0, none⟩) 1 1, .slice (some ⟨g, 0, none⟩) 1 1, .slice none 0 0, .bool false] 32)) := (Below.refl _ _).alloc (Nat.le_refl _) _
  have hp5 := PrB.new w4 (.slice (some ⟨nb, 0, none⟩) 1 1) (.slice (some ⟨g, 0, none⟩) 1 1) (.slice none 0 0) false
  go_upto_region 22 with fail
  obtain ⟨w5, hw5⟩ : ∃ V, w4.alloc (.cells #[.slice (some ⟨nb, 0, none⟩) 1 1, .slice (some ⟨g, 0, none⟩) 1 1, .slice none 0 0, .bool false] 32) = V := ⟨_, rfl⟩
  rw [hw5] at b5 hp5 ⊢
  clear hw5
  obtain ⟨pq, hpq⟩ : ∃ pq, w4.heap.size = pq := ⟨_, rfl⟩
  rw [hpq] at hp5 ⊢
  have hp6 := hp5.setQ true
  have c3 := hp5.c3
  have z3 := hp5.fz 3
  have hpl := hp5.lt
  have hq6 : pq < w5.heap.size ∧ h0 + 3 ≤ pq := ⟨hpl, by have := HS3.out; have := hb4.size; omega⟩
  have b35 : Below (h0 + 3) W3 w5 := (HS3.out ▸ hb4).trans (b5.mono (by omega))
  have b36 : Below (h0 + 3) W3 (w5.setCell ⟨pq, 3, none⟩ (.bool true)) := b35.setCell (p := ⟨pq, 3, none⟩) (by show h0 + 3 ≤ pq; omega) _
  have hpg6 : PgM (w5.setCell ⟨pq, 3, none⟩ (.bool true)) 1 (some ⟨nb, 0, none⟩) (some ⟨g, 0, none⟩) pcs := by
    have h5 := hpg.below b5
    have hgl : g < w4.heap.size := World.block_lt_of_cell? _ _ hg
    have hk : ∀ x, x ≠ pq → (w5.setCell ⟨pq, 3, none⟩ (.bool true)).heap[x]? = w5.heap[x]? := fun x hx => Below.heap_setCell _ _ _ _ hx
    refine .inr ⟨rfl, PcV.mine, nb, 0, g, 0, rfl, rfl, fun j v hv => ?_, by simp [World.setCell]; have := b5.size; omega, ?_⟩
    · exact (World.cell?_of_block (a := ⟨nb, 0 + j, none⟩) (hk nb (by omega))).trans ((b5.cell (p := ⟨nb, 0 + j, none⟩) hnb).trans (hr j v hv))
    · exact (World.cell?_of_block (a := ⟨g, 0, none⟩) (hk g (by omega))).trans ((b5.cell (p := ⟨g, 0, none⟩) hgl).trans hg)
  have HP6 := Lib.hid hp6
  have HPG6 := Lib.hid hpg6
  have HB36 := Lib.hid b36
  have HPQ : Hid (h0 + 3 ≤ pq) := Lib.hid hq6.2
  clear hr hnb hg hb4 hpg b5 hp5 hpq hp6 hq6 b35 b36 hpg6
  go_upto_region 23 with fail
  obtain ⟨w6, hw6⟩ : ∃ V, w5.setCell ⟨pq, 3, none⟩ (.bool true) = V := ⟨_, rfl⟩
  rw [hw6] at HP6 HPG6 HB36 ⊢
  clear hw6 c3 z3 hpl
  have HNA := Lib.hid (snew_call (w := w6) (nc := 0) (oc := none) (ot := none) (cc := 0) (ct := 0) (l := []) (.inl ⟨rfl, rfl, rfl⟩) (fun _ => rfl) false h0)
  have hs6 : h0 + 3 ≤ w6.heap.size := by have := HS3.out; have := HB36.out.size; omega
  have HS6 := Lib.hid hs6
  clear hs6
  go_wp2_with fail
  refine HNA.out.mono ?_; rintro e w7 ⟨⟨ka, rfl, hma, hka1, hka2, hka3, hka4⟩, hb7⟩
  have HMA7 := Lib.hid hma
  have HKA : Hid (ka.wb = h0 ∧ ka.nc = 0 ∧ ka.q = false ∧ h0 + 3 ≤ ka.qb) := Lib.hid ⟨hka1, hka2, hka3, by have := HS6.out; omega⟩
  have HB7 := Lib.hid (HB36.out.trans (hb7.mono HS6.out))
  have HP7 := Lib.hid (HP6.out.below hb7)
  have HPG7 := Lib.hid (HPG6.out.below hb7)
  have HS7 : Hid (h0 + 3 ≤ w7.heap.size) := Lib.hid (by have := HS6.out; have := hb7.size; omega)
  clear hma hka1 hka2 hka3 hka4 hb7 HNA HP6 HPG6 HB36 HS6
  go_upto_region 24 with fail
  go_wp2_with fail
  refine (HPR _).out.mono ?_; rintro e w8 ⟨⟨nb2, g2, rfl, hr2, hnb2, hg2⟩, hb8⟩
  have HNB := Lib.hid (snew_call (w := w8) (nc := 1) (oc := some ⟨nb2, 0, none⟩) (ot := some ⟨g2, 0, none⟩) (cc := 1) (ct := 1) (l := pcs) (.inr ⟨rfl, PcV.mine, nb2, 0, g2, 0, rfl, rfl, hr2, hnb2, hg2⟩) (fun e => by cases e) false (h0 + 1))
  have HMA8 := Lib.hid (HMA7.out.below hb8)
  have HB8 := Lib.hid (HB7.out.trans (hb8.mono HS7.out))
  have HP8 := Lib.hid (HP7.out.below hb8)
  have HPG8 := Lib.hid (HPG7.out.below hb8)
  have HS8 : Hid (h0 + 3 ≤ w8.heap.size) := Lib.hid (by have := HS7.out; have := hb8.size; omega)
  clear hr2 hnb2 hg2 hb8 HMA7 HB7 HP7 HPG7 HS7 HPR
  go_wp2_with fail
  refine HNB.out.mono ?_; rintro e w9 ⟨⟨kb, rfl, hmb, hkb1, hkb2, hkb3, hkb4⟩, hb9⟩
  have HMB9 := Lib.hid hmb
  have HKB : Hid (kb.wb = h0 + 1 ∧ kb.nc = 1 ∧ kb.q = false ∧ ka.mb < kb.qb) := Lib.hid ⟨hkb1, hkb2, hkb3, by have := HMA8.out.mlt; omega⟩
  have HMA9 := Lib.hid (HMA8.out.below hb9)
  have HB9 := Lib.hid (HB8.out.trans (hb9.mono HS8.out))
  have HP9 := Lib.hid (HP8.out.below hb9)
  have HPG9 := Lib.hid (HPG8.out.below hb9)
  have HS9 : Hid (h0 + 3 ≤ w9.heap.size) := Lib.hid (by have := HS8.out; have := hb9.size; omega)
  clear hmb hkb1 hkb2 hkb3 hkb4 hb9 HNB HP8 HPG8 HB8 HS8 HMA8
  have HNC := Lib.hid (snew_call (w := w9) (ct := 1) HPG9.out (cc := 1) (fun e => by cases e) true (h0 + 2))
  have c0 := HP9.out.c0
  have c1 := HP9.out.c1
  have c2 := HP9.out.c2
  have c3 := HP9.out.c3
  have hpl := HP9.out.lt
  go_wp2_with fail
  refine HNC.out.mono ?_; rintro e w10 ⟨⟨kc, rfl, hmc, hkc1, hkc2, hkc3, hkc4⟩, hb10⟩
  have HKC : Hid (kc.wb = h0 + 2 ∧ kc.nc = 1 ∧ kc.q = true ∧ kb.mb < kc.qb) := Lib.hid ⟨hkc1, hkc2, hkc3, by have := HMB9.out.mlt; omega⟩
  have hB := HB9.out.trans (hb10.mono HS9.out)
  have hwa := HW1.out.below (HS3.out ▸ hB)
  have hwb := HW2.out.below (HS3.out ▸ hB)
  have hwc := HW3.out.below (HS3.out ▸ hB)
  rw [← HKA.out.1] at hwa
  rw [← HKB.out.1] at hwb
  rw [← HKC.out.1] at hwc
  have HSA := Lib.hid (StS.first (base := ka.wb + 1) (HMA9.out.below hb10) hwa (by omega) (by have := HKA.out.2.2.2; have := HKA.out.1; omega))
  have o2 := (HMA9.out).or1
  have o3 := (HMB9.out).or1
  have HSB := Lib.hid (StS.first (base := h0 + 2) (HMB9.out.below hb10) hwb (by have := HKB.out.1; omega) (by have := HKA.out.2.2.2; have := HKB.out.2.2.2; omega))
  have HSC := Lib.hid (StS.first (base := h0 + 3) hmc hwc (by have := HKC.out.1; omega) (by have := HKA.out.2.2.2; have := HKB.out.2.2.2; have := HKC.out.2.2.2; omega))
  have HOR : Hid (h0 + 3 ≤ ka.qb ∧ ka.qb ≤ ka.mb ∧ ka.mb < kb.qb ∧ kb.qb ≤ kb.mb ∧ kb.mb < kc.qb ∧ kc.qb ≤ kc.mb ∧ kc.mb < w10.heap.size) := Lib.hid ⟨HKA.out.2.2.2, by omega, HKB.out.2.2.2, by omega, HKC.out.2.2.2, by have := hmc.or1; omega, hmc.mlt⟩
  have HCP := Lib.hid (HCP3.out.below (HS3.out ▸ hB))
  have HLB := Lib.hid (HLB3.out.below (hB.mono (by omega)))
  have HAT : Hid (w.heap.size ≤ w0.heap.size) := Lib.hid HB0.out.size
  clear hmc hkc1 hkc2 hkc3 hkc4 hb10 HNC hB hwa hwb hwc o2 o3 c0 c1 c2 c3 hpl HP9 HPG9 HB9 HS9 HMA9 HMB9 HCP3 HLB3 HW1 HW2 HW3 HS3 HPQ
  go_upto_region 28 with fail
  have HRA := Lib.hid (run_call HSA.out (by decide) rfl rfl rfl (.inr HKA.out.2.2.1) HM.out (by have := HIT.out; omega) (B := h0) (by have := HKA.out.1; omega) HLB.out HSM2.out (by have := HFL.out ka.nc ka.q; omega))
  rw [HKA.out.1, HKA.out.2.1, HKA.out.2.2.1, HPA.out] at HRA
  obtain ⟨n3, hn3⟩ : ∃ n3, 3 * i = n3 := ⟨_, rfl⟩
  have hmu := mul3 HIT.out hn3
  have hmm : (n3 : Int) + 3 = ((3 * i + 3 : Nat) : Int) := by omega
  have hi2 : (n3 : Int) ≤ 6442450941 := by have := HIT.out; omega
  clear hn3
  obtain ⟨most, hmost⟩ : ∃ most, 3 * i + 3 = most := ⟨_, rfl⟩
  rw [hmost] at hmm HRA
  have hmq : (3 : Int) * (i : Int) + 3 = (most : Int) := by omega
  have HMO := Lib.hid hmost
  clear hmost
  go_upto_region 29 with fail
  clear hmm hmu hi2 hmq
  go_wp2_with fail
  refine HRA.out.mono ?_; rintro e v1 ⟨rfl, sa, Ta, pka, ua, za, Oa, hsa, hga⟩
  have HFA := Lib.hid (FinR.of_run hsa hga)
  have hka := hga.kept
  have hfa : ∀ x, sfoot ka (fun _ => none) none x → x = h0 ∨ (ka.qb ≤ x ∧ x ≤ ka.mb) := fun x hx => by rw [← HKA.out.1]; exact sfoot0 hx
  have HSB1 := Lib.hid (HSB.out.keep hka fun x _ hx q => by
    have h1 := hfa x hx
    have h2 := sfoot0 q
    rw [HKB.out.1] at h2
    have := HOR.out
    omega)
  have HSC1 := Lib.hid (HSC.out.keep hka fun x _ hx q => by
    have h1 := hfa x hx
    have h2 := sfoot0 q
    rw [HKC.out.1] at h2
    have := HOR.out
    omega)
  have HCP1 := Lib.hid (HCP.out.keep hka fun x _ hx => by
    have h1 := hfa x hx
    have h3 := HW0.out
    have h4 := HOR.out
    exact ⟨by omega, fun e => by have := HWR4.out x e; omega, fun e => by have := HWR5.out x e; omega⟩)
  have HLB1 := Lib.hid (HLB.out.below (hka.below (k := h0) (by have := HOR.out; omega) fun j hj hx => by have h1 := hfa j hx; have := HOR.out; omega))
  have HV1 : Hid (w10.heap.size ≤ v1.heap.size) := Lib.hid hka.size
  rw [HKA.out.1] at HFA
  clear hsa hga hka hfa HRA HSA HSB HSC HCP HLB
  have HRB := Lib.hid (run_call HSB1.out (by decide) rfl rfl rfl (.inl HKB.out.2.1) HM.out (by have := HIT.out; omega) (B := h0) (by have := HKB.out.1; omega) HLB1.out HSM2.out (by have := HFL.out kb.nc kb.q; omega))
  rw [HKB.out.1, HKB.out.2.1, HKB.out.2.2.1, HPB.out, HMO.out] at HRB
  go_wp2_with fail
  refine HRB.out.mono ?_; rintro e v2 ⟨rfl, sb, Tb, pkb, ub, zb, Ob, hsb, hgb⟩
  have HFB := Lib.hid (FinR.of_run hsb hgb)
  have hkb := hgb.kept
  have hfb : ∀ x, sfoot kb (fun _ => none) none x → x = h0 + 1 ∨ (kb.qb ≤ x ∧ x ≤ kb.mb) := fun x hx => by rw [← HKB.out.1]; exact sfoot0 hx
  have HFA2 := Lib.hid (HFA.out.keep hkb (fun q => by have h1 := hfb _ q; have := HOR.out; omega) fun x h2 _ q => by have h1 := hfb _ q; have := HOR.out; omega)
  have HSC2 := Lib.hid (HSC1.out.keep hkb fun x _ hx q => by
    have h1 := hfb x hx
    have h2 := sfoot0 q
    rw [HKC.out.1] at h2
    have := HOR.out
    omega)
  have HCP2 := Lib.hid (HCP1.out.keep hkb fun x _ hx => by
    have h1 := hfb x hx
    have h3 := HW0.out
    have h4 := HOR.out
    exact ⟨by omega, fun e => by have := HWR4.out x e; omega, fun e => by have := HWR5.out x e; omega⟩)
  have HLB2 := Lib.hid (HLB1.out.below (hkb.below (k := h0) (by have := HOR.out; have := HV1.out; omega) fun j hj hx => by have h1 := hfb j hx; have := HOR.out; omega))
  have HV2 : Hid (v1.heap.size ≤ v2.heap.size) := Lib.hid hkb.size
  rw [HKB.out.1] at HFB
  clear hsb hgb hkb hfb HRB HSB1 HSC1 HCP1 HLB1 HFA
  have HRC := Lib.hid (run_call HSC2.out (by decide) rfl rfl rfl (.inl HKC.out.2.1) HM.out (by have := HIT.out; omega) (B := h0) (by have := HKC.out.1; omega) HLB2.out HSM2.out (by have := HFL.out kc.nc kc.q; omega))
  rw [HKC.out.1, HKC.out.2.1, HKC.out.2.2.1, HPC.out, HMO.out] at HRC
  go_wp2_with fail
  refine HRC.out.mono ?_; rintro e v3 ⟨rfl, sc, Tc, pkc, uc, zc, Oc, hsc, hgc⟩
  have HFC := Lib.hid (FinR.of_run hsc hgc)
  have hkc := hgc.kept
  have hfc : ∀ x, sfoot kc (fun _ => none) none x → x = h0 + 2 ∨ (kc.qb ≤ x ∧ x ≤ kc.mb) := fun x hx => by rw [← HKC.out.1]; exact sfoot0 hx
  have HFA3 := Lib.hid (HFA2.out.keep hkc (fun q => by have h1 := hfc _ q; have := HOR.out; omega) fun x h2 _ q => by have h1 := hfc _ q; have := HOR.out; omega)
  have HFB3 := Lib.hid (HFB.out.keep hkc (fun q => by have h1 := hfc _ q; have := HOR.out; omega) fun x h2 _ q => by have h1 := hfc _ q; have := HOR.out; have := HV1.out; omega)
  have HCP4 := Lib.hid (HCP2.out.keep hkc fun x _ hx => by
    have h1 := hfc x hx
    have h3 := HW0.out
    have h4 := HOR.out
    exact ⟨by omega, fun e => by have := HWR4.out x e; omega, fun e => by have := HWR5.out x e; omega⟩)
  rw [HKC.out.1] at HFC
  clear hsc hgc hkc hfc HRC HSC2 HCP2 HLB2 HFA2 HFB
  go_upto_region 31 with fail
  have hal : PA.length ≤ 140737488355328 := by have := HFL.out 0 false; rw [HPA.out] at this; omega
  have hbl : PB.length ≤ 140737488355328 := by have := HFL.out 1 false; rw [HPB.out] at this; omega
  obtain ⟨o4, k4, rfl⟩ := own_form HCP4.out.r4
  obtain ⟨o5, k5, rfl⟩ := own_form HCP4.out.r5
  obtain ⟨oA, cA, qA, rA⟩ := HFA3.out.c
  have HQA := Lib.hid (eqBytesU (ca := cA) (cb := k4) (BtM.of_src (Src.own rA)) (BtM.of_src (Src.own HCP4.out.r4)) hal)
  have hla := HFA3.out.lt
  have HAL := Lib.hid hal
  have HBL := Lib.hid hbl
  clear rA hal hbl
  go_wp2_with fail
  refine HQA.out.mono ?_; rintro e y1 ⟨rfl, hy1⟩
  have HCP5 := Lib.hid (HCP4.out.below hy1)
  have HFB5 := Lib.hid (HFB3.out.below hy1)
  have HFC5 := Lib.hid (HFC.out.below hy1)
  clear qA hla hy1 HQA HFA3
  obtain ⟨oB, cB, qB, rB⟩ := HFB5.out.c
  have HQB := Lib.hid (eqBytesU (ca := cB) (cb := k5) (BtM.of_src (Src.own rB)) (BtM.of_src (Src.own HCP5.out.r5)) HBL.out)
  have hlb := HFB5.out.lt
  clear rB
  go_wp2_with fail
  refine HQB.out.mono ?_; rintro e y2 ⟨rfl, hy2⟩
  have HCP6 := Lib.hid (HCP5.out.below hy2)
  have HFC6 := Lib.hid (HFC5.out.below hy2)
  clear qB hlb hy2 HQB HFB5
  obtain ⟨oC, cC, qC, rC⟩ := HFC6.out.c
  have HQC := Lib.hid (eqBytesU (ca := cC) (cb := k4) (BtM.of_src (Src.own rC)) (BtM.of_src (Src.own HCP6.out.r4)) HAL.out)
  have hlc := HFC6.out.lt
  clear rC
  go_wp2_with fail
  refine HQC.out.mono ?_; rintro e y3 ⟨rfl, hy3⟩
  have HCP7 := Lib.hid (HCP6.out.below hy3)
  have HWK := Lib.hid (works_call (w := y3))
  clear qC hlc hy3 HQC HFC6
  go_wp2_with fail
  refine HWK.out.mono ?_; rintro e y4 ⟨rfl, hy4⟩
  have HBE := Lib.hid ((HB0.out.trans (HCP7.out.be.mono HB0.out.size)).trans (hy4.mono (Nat.le_trans HB0.out.size HCP7.out.be.size)))
  clear hy4 HWK
  go_wp2_with fail
  go_ret
  exact ⟨rfl, HBE.out⟩
end
end Go.Proofs.YtdinjlglngpecaaGreatDoor
