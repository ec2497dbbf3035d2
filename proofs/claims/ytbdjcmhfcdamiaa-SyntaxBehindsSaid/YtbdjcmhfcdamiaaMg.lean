/- SyntaxBehinds' walk. -/
import Derived.Test.YtbdjcmhfcdamiaaMf
namespace Go.Proofs.Ytbdjcmhfcdamiaa
open Go.RowKit

theorem Nd.getD_mem {l : List Nd} {P : Nd → Prop} (h : ∀ x ∈ l, P x) {i : Nat} (hi : i < l.length) : P (l.getD i Nd.zero) := by
  rw [List.getD_eq_getElem?_getD, List.getElem?_eq_getElem hi]
  exact h _ (List.getElem_mem hi)
set_option maxRecDepth 100000 in
set_option maxHeartbeats 3200000 in
theorem behinds_all {re : List Nd} {oa : Option Addr} {cap : Nat} {w : World} (hv : NdW w oa cap re) (z : re.length * 72 ≤ 140737488351232) (at_ : Int) (_ : -9223372036854775808 ≤ at_ ∧ at_ ≤ 9223372036854775807) :
    Calls Try.prog 4 #[.slice oa re.length cap, .int .i64 at_] w fun e w' => e = .returned (.bool true) ∧ Below w.heap.size w w' := by
  have HV := Lib.hid hv
  have hok : NdOk re := fun x hx => ⟨(hv.wf x hx).1, (hv.wf x hx).2.2.2.2.2⟩
  have HOK := Lib.hid hok
  have HOP := hv.op
  clear hv hok
  go_enter Try.func4, Try.ntmps4
  go_wp2_with fail
  refine (beyond_call HV.out z).mono ?_; rintro e w1 ⟨⟨b, rfl⟩, hb1⟩
  have B1 := Lib.hid hb1
  clear hb1
  cases b with
  | true =>
    go_wp2_with fail
    go_ret
    exact ⟨rfl, B1.out⟩
  | false =>
  go_wp2_with fail
  refine (long_call _).mono ?_; rintro e w2 ⟨rfl, rfl⟩
  by_cases hl : 2147483647 < re.length
  · have hl' : decide ((2147483647 : Int) < (re.length : Int)) = true := decide_eq_true (by omega)
    rw [hl']
    clear hl hl'
    go_wp2_with fail
    go_ret
    exact ⟨rfl, B1.out⟩
  have hl' : decide ((2147483647 : Int) < (re.length : Int)) = false := decide_eq_false (by omega)
  rw [hl']
  clear hl'
  have HL := Lib.hid (show re.length ≤ 2147483647 by omega)
  have hlb : (re.length : Int) ≤ 2147483647 := by omega
  clear hl
  go_wp2_with fail
  refine (wideNodes_call (HV.out.below B1.out) HL.out).mono ?_; rintro e w2 ⟨⟨g, rfl, hn2⟩, hb2⟩
  have B2 := Lib.hid (B1.out.trans (hb2.mono B1.out.size))
  have HN2 := Lib.hid hn2
  have HFL := Lib.hid (show (re ++ spareL re.length).length = re.length + 64 by rw [List.length_append]; simp [spareL])
  have hgw : w.heap.size ≤ g := by have := (hn2.lt g rfl).1; have := B1.out.size; omega
  have HI2 := Lib.hid (hn2.preV HFL.out (by have := HL.out; omega) (fun x hx => (HOK.out x hx).2))
  have HR2 := Lib.hid ((HV.out.below B2.out).toV (by have := HL.out; omega))
  clear hb2 hn2
  go_wp2_with fail
  refine (behind_call at_ HI2.out).mono ?_; rintro e w3 ⟨rfl, hb3⟩
  have C3 := Lib.hid hb3
  clear hb3
  go_wp2_with fail
  refine (rbehind_call HOP at_ (HR2.out.below C3.out)).mono ?_; rintro e w4 ⟨rfl, hb4⟩
  have Ca := Lib.hid (C3.out.trans (hb4.mono C3.out.size))
  clear hb4 C3
  go_wp2_with fail
  refine (eqNodes_call (HI2.out.below Ca.out) (HR2.out.below Ca.out)).mono ?_; rintro e wb ⟨rfl, hbb⟩
  rw [show decide (re = re) = true by simp]
  have Cb := Lib.hid (Ca.out.trans (hbb.mono Ca.out.size))
  clear hbb Ca
  go_wp2_with fail
  refine (spareNodes_call (HN2.out.below Cb.out) rfl HL.out).mono ?_; rintro e wc ⟨rfl, hbc⟩
  have Cc := Lib.hid (Cb.out.trans (hbc.mono Cb.out.size))
  have Bc := Lib.hid (B2.out.trans (Cc.out.mono B2.out.size))
  have HNc := Lib.hid ((HN2.out.below Cc.out).mono (base' := w.heap.size) B1.out.size)
  clear hbc Cb HI2 HR2 HN2
  go_wp2_with fail
  go_loopg [6] re.length (fun n iv wr => ∃ (d : Nat) (l : List Nd), iv = .int .i64 (d : Nat) ∧ n = re.length - d ∧ d ≤ re.length ∧ l.length = re.length ∧ NdOk l ∧ Nds wr w.heap.size (.slice (some ⟨g, 0, none⟩) (re.length + 64) (re.length + 64)) (l ++ spareL re.length) ∧ Below w.heap.size w wr)
  case atStart => exact ⟨0, re, rfl, by omega, by omega, rfl, HOK.out, HNc.out, Bc.out⟩
  case round =>
    obtain ⟨d, l, rfl, hg, hd, hll, hlo, hn, hb⟩ := hrel
    have HG := Lib.hid hg
    have HLL := Lib.hid hll
    have HLO := Lib.hid hlo
    have HN := Lib.hid hn
    have HB := Lib.hid hb
    have HFL2 := Lib.hid (show (l ++ spareL re.length).length = re.length + 64 by rw [List.length_append, hll]; simp [spareL])
    clear hg hll hlo hn hb
    by_cases hlt : d < re.length
    · have hlt' : (d : Int) < (re.length : Int) := by omega
      obtain ⟨z0, z1, z2, z3, z4, z5, z6, z7, z8, zf⟩ := HN.out.nine HFL2.out (show d < re.length + 64 by omega) rfl
      have hgr : g < wr.heap.size := (HN.out.lt g rfl).2
      obtain ⟨x, hx⟩ : ∃ x, re[re.length - 1 - d]? = some x := ⟨_, List.getElem?_eq_getElem (by omega)⟩
      have HXO := Lib.hid (HOK.out x (List.mem_of_getElem? hx))
      obtain ⟨nb, no, hoa, hnd⟩ := ((HV.out.below HB.out).toV (by have := HL.out; omega)).at_ (by omega)
      obtain ⟨n0, n1, n2, n3, n4, n5, n6, n7, n8⟩ := hnd.cells hx
      have nbl := hnd.lt
      subst hoa
      clear hnd hx
      have hkc : ((re.length - 1 - d : Nat) : Int) = (re.length : Int) - 1 - (d : Int) := by omega
      generalize re.length - 1 - d = kk at n0 n1 n2 n3 n4 n5 n6 n7 n8 hkc
      have hkk : (re.length : Int) - 1 - (d : Int) = (kk : Int) := hkc.symm
      have hkl : (kk : Int) < (re.length : Int) := by omega
      have HS := Lib.hid (show (l ++ spareL re.length).set d x = l.set d x ++ spareL re.length by rw [List.set_append_left _ _ (by have := HLL.out; omega)])
      clear hkc
      go_wp2_with fail
      go_roundg (re.length - (d + 1))
      case measure => have := HG.out; omega
      case rel => exact ⟨d + 1, l.set d x, by go_num, rfl, by omega, by rw [List.length_set]; exact HLL.out, HLO.out.set HXO.out, by rw [← HS.out]; exact Nds.put HN.out HFL2.out (by omega) x, HB.out.trans (put9_below hgw d x)⟩
    · have hlt' : ¬ (d : Int) < (re.length : Int) := by omega
      have HLB := Lib.hid (show l.length ≤ 4294967296 by have := HLL.out; have := HL.out; omega)
      have HIn := Lib.hid (HN.out.preV HFL2.out HLB.out (fun x hx => (HLO.out x hx).2))
      have HC := Lib.hid (copyNodesS_call (cap := re.length + 64) (Lib.hid HIn.out.srcAt).out (by have := HLL.out; have := HL.out; omega))
      have HS := fun w' (h : NdV w' (some ⟨g, 0, none⟩) l) => Lib.hid (behind_call (cap := re.length + 64) at_ h)
      rw [HLL.out] at HC HS
      go_wp2_with fail
      refine HC.out.mono ?_; rintro e x1 ⟨⟨v, rfl, hv1⟩, hb1⟩
      have D1 := Lib.hid hb1
      obtain ⟨ob, cp, rfl, hcp, hvo⟩ := hv1.toV2 HLB.out (fun x hx => (HLO.out x hx).2)
      have HVO := Lib.hid hvo
      have HOL : Hid (∀ x ∈ l, -128 ≤ x.op ∧ x.op ≤ 127) := fun x hx => (HLO.out x hx).1
      clear hb1 hv1 hvo
      go_wp2_with fail
      refine (HS _ (HIn.out.below D1.out)).out.mono ?_; rintro e x2 ⟨rfl, hb2⟩
      have D2 := Lib.hid hb2
      clear hb2
      go_wp2_with fail
      refine (rbehind_call HOL at_ (HVO.out.below D2.out)).mono ?_; rintro e x3 ⟨rfl, hb3⟩
      have D5 := Lib.hid (D2.out.trans (hb3.mono D2.out.size))
      clear hb3
      go_wp2_with fail
      refine works_call.mono ?_; rintro e x6 ⟨rfl, hb6⟩
      have D6 := Lib.hid (D5.out.trans (hb6.mono D5.out.size))
      clear hb6
      go_wp2_with fail
      go_ret
      exact ⟨rfl, HB.out.trans ((D1.out.trans (D6.out.mono D1.out.size)).mono HB.out.size)⟩
end Go.Proofs.Ytbdjcmhfcdamiaa
