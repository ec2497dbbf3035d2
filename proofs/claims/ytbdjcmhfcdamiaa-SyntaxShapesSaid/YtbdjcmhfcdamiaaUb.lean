/- Contracts of the reference's functions on trees: weigh. -/
import Derived.Test.YtbdjcmhfcdamiaaUa
namespace Go.Proofs.Ytbdjcmhfcdamiaa
open Go.RowKit

set_option maxRecDepth 100000 in
set_option maxHeartbeats 1600000 in
theorem rweigh_any {re : List Nd} {nb no cap : Nat} (hr : RepOk re) (ho : ∀ x ∈ re, -128 ≤ x.op ∧ x.op ≤ 127) : ∀ (f i : Nat) (r : Int × Nat) (w : World) (iv : Int), iv = i → NdAt w nb no re → weighN re f i = some r →
    Calls Try.prog 36 #[.slice (some ⟨nb, no, none⟩) re.length cap, .int .i64 iv] w fun e w' => e = .returned (.tuple #[.int .i64 r.1, .int .i64 (r.2 : Nat)]) ∧ Below w.heap.size w w'
  | 0, _, _, _, _, _, _, h => by simp [weighN] at h
  | f + 1, i, r, w, iv, hiv, hn, h => by
    subst hiv
    have ih := fun (i : Nat) (r : Int × Nat) (w : World) (iv : Int) (hiv : iv = i) (h : NdAt w nb no re) (hw : weighN re f i = some r) => rweigh_any (cap := cap) hr ho f i r w iv hiv h hw
    have hbn := Lib.hid (fun i r => weighN_bounds hr f i r)
    have hb := weighN_bounds hr _ _ _ h
    unfold weighN at h
    cases hx : re[i]? with
    | none => rw [hx] at h; cases h
    | some n =>
      rw [hx] at h
      simp only at h
      have hi : i < re.length := (List.getElem?_eq_some_iff.1 hx).1
      have hi' : (i : Int) < (re.length : Int) := by omega
      have hlen := hn.len
      obtain ⟨c0, c1, c2, c3, c4, c5, c6, c7, c8⟩ := hn.cells hx
      have nbl := hn.lt
      have hmem := List.mem_of_getElem? hx
      have hkm := hn.k n hmem
      have hrn := Lib.hid (hr n hmem)
      obtain ⟨hop1, hop2⟩ := ho n hmem
      obtain ⟨op, ⟨x0, x1, x2, x3⟩, xn, xmin, xmax, xk⟩ := n
      simp only at c0 c1 c2 c3 c4 c5 c6 c7 c8 hkm hrn h hop1 hop2
      have HN := Lib.hid hn
      have HIH := Lib.hid ih
      have H := Lib.hid h
      clear ih hn hx h
      cases hk : kidsW (weighN re f) xk.toNat 0 (i + 1) with
      | none => have := H.out; rw [hk] at this; cases this
      | some q =>
      obtain ⟨sm, nx⟩ := q
      have HQ := H.out
      rw [hk] at HQ
      simp only [Option.some.injEq] at HQ
      have HK := Lib.hid hk
      clear hk H hb
      subst HQ
      simp only
      have hx0 := xk.toNat
      go_enter Try.func36, Try.ntmps36
      go_wp2_with fail
      go_loopg [7, 8, 9] xk.toNat (fun g s t j wr => ∃ (sum : Int) (p d : Nat), s = .int .i64 sum ∧ t = .int .i64 (p : Nat) ∧ j = .int .i64 (d : Nat) ∧ g = xk.toNat - d ∧ d ≤ xk.toNat ∧ 0 ≤ sum ∧ sum ≤ 16385 ∧ p ≤ re.length ∧ Below w.heap.size w wr ∧ ndAt wr w.heap.size ⟨op, ⟨x0, x1, x2, x3⟩, xn, xmin, xmax, xk⟩ ∧
        Hid (kidsW (weighN re f) (xk.toNat - d) sum p = some (sm, nx)))
      case atStart => exact ⟨0, i + 1, 0, rfl, by go_num, rfl, by omega, by omega, by omega, by omega, by omega, (Below.refl _ _).alloc (Nat.le_refl _) _, heap_alloc_new _ _, HK.out⟩
      case round =>
        obtain ⟨sum, p, d, rfl, rfl, rfl, hg, hd, hs1, hs2, hp, hbe, hnd, HS⟩ := hrel
        have HG := Lib.hid hg
        obtain ⟨d0, d1, d2, d3, d4, d5, d6, d7, d8, g0⟩ := hnd.cells
        simp only at d0 d1 d2 d3 d4 d5 d6 d7 d8
        have hBl := hnd.lt
        clear hg
        by_cases hlt : d < xk.toNat
        · have hlt' : (d : Int) < xk := by omega
          have HS1 := HS.out
          rw [show xk.toNat - d = (xk.toNat - (d + 1)) + 1 by omega, kidsW] at HS1
          cases hw : weighN re f p with
          | none => rw [hw] at HS1; cases HS1
          | some q =>
            obtain ⟨w2, n2⟩ := q
            rw [hw] at HS1
            simp only at HS1
            have hb2 := hbn.out _ _ hw
            simp only at hb2
            have HSZ := Lib.hid HS1
            have hih := HIH.out p (w2, n2) wr p rfl (HN.out.below hbe) hw
            have HB := Lib.hid hbe
            have HD := Lib.hid hnd
            clear HS1 hw hbe hnd HS
            go_wp2_with fail
            clear d0 d1 d2 d3 d4 d5 d6 d7 d8 g0 hBl
            refine hih.mono ?_; rintro e w3 ⟨rfl, hb3⟩
            have HB3 := Lib.hid (HB.out.trans (hb3.mono HB.out.size))
            have HD3 := Lib.hid (HD.out.below hb3)
            clear hih hb3
            by_cases hm : 16385 < sum + w2
            · have he : min (sum + w2) 16385 = 16385 := by omega
              rw [he] at HSZ
              clear he
              go_wp2_with fail
              go_roundg (xk.toNat - (d + 1))
              case measure => have := HG.out; omega
              case rel => exact ⟨16385, n2, d + 1, rfl, rfl, by go_num, rfl, by omega, by omega, by omega, hb2.2.2.2, HB3.out, HD3.out, HSZ.out⟩
            · have he : min (sum + w2) 16385 = sum + w2 := by omega
              rw [he] at HSZ
              clear he
              go_wp2_with fail
              go_roundg (xk.toNat - (d + 1))
              case measure => have := HG.out; omega
              case rel => exact ⟨sum + w2, n2, d + 1, rfl, rfl, by go_num, rfl, by omega, by omega, by omega, hb2.2.2.2, HB3.out, HD3.out, HSZ.out⟩
        · have hlt' : ¬ (d : Int) < xk := by omega
          have HS1 := HS.out
          rw [show xk.toNat - d = 0 by omega, kidsW] at HS1
          simp only [Option.some.injEq, Prod.mk.injEq] at HS1
          obtain ⟨e1, e2⟩ := HS1
          subst e1 e2
          have HB := Lib.hid hbe
          clear hnd hbe HS
          by_cases h6 : op = 6
          · have hr6 := hrn.out h6
            subst h6
            by_cases hmx : xmax < 0
            · have ht : timesN ⟨6, ⟨x0, x1, x2, x3⟩, xn, xmin, xmax, xk⟩ = xmin + 1 := by simp [timesN, hmx]
              have hmul : 0 ≤ (xmin + 1) * sum ∧ (xmin + 1) * sum ≤ 256 * 16385 := ⟨Int.mul_nonneg (by omega) hs1, Int.mul_le_mul (by omega) hs2 (by omega) (by omega)⟩
              have HT := Lib.hid (show timesN ⟨6, ⟨x0, x1, x2, x3⟩, xn, xmin, xmax, xk⟩ * sum = (xmin + 1) * sum from by rw [ht])
              clear ht
              by_cases hm : 16385 < 1 + (xmin + 1) * sum
              · go_wp2_with fail
                go_ret2
                exact ⟨by rw [HT.out, show min ((xmin + 1) * sum + 1) 16385 = 16385 by omega]; rfl, HB.out⟩
              · go_wp2_with fail
                go_ret2
                exact ⟨by rw [HT.out, show min ((xmin + 1) * sum + 1) 16385 = 1 + (xmin + 1) * sum by omega]; rfl, HB.out⟩
            · by_cases h1 : xmax < 1
              · have ht : timesN ⟨6, ⟨x0, x1, x2, x3⟩, xn, xmin, xmax, xk⟩ = 1 := by simp only [timesN, if_true, if_neg hmx]; omega
                have HT := Lib.hid (show timesN ⟨6, ⟨x0, x1, x2, x3⟩, xn, xmin, xmax, xk⟩ * sum = sum from by rw [ht]; exact Int.one_mul _)
                clear ht
                by_cases hm : 16385 < 1 + sum
                · go_wp2_with fail
                  go_ret2
                  exact ⟨by rw [HT.out, show min (sum + 1) 16385 = 16385 by omega]; rfl, HB.out⟩
                · go_wp2_with fail
                  go_ret2
                  exact ⟨by rw [HT.out, show min (sum + 1) 16385 = 1 + sum by omega]; rfl, HB.out⟩
              · have ht : timesN ⟨6, ⟨x0, x1, x2, x3⟩, xn, xmin, xmax, xk⟩ = xmax := by simp only [timesN, if_true, if_neg hmx]; omega
                have hmul : 0 ≤ xmax * sum ∧ xmax * sum ≤ 255 * 16385 := ⟨Int.mul_nonneg (by omega) hs1, Int.mul_le_mul (by omega) hs2 (by omega) (by omega)⟩
                have HT := Lib.hid (show timesN ⟨6, ⟨x0, x1, x2, x3⟩, xn, xmin, xmax, xk⟩ * sum = xmax * sum from by rw [ht])
                clear ht
                by_cases hm : 16385 < 1 + xmax * sum
                · go_wp2_with fail
                  go_ret2
                  exact ⟨by rw [HT.out, show min (xmax * sum + 1) 16385 = 16385 by omega]; rfl, HB.out⟩
                · go_wp2_with fail
                  go_ret2
                  exact ⟨by rw [HT.out, show min (xmax * sum + 1) 16385 = 1 + xmax * sum by omega]; rfl, HB.out⟩
          · have h6' : (op == 6) = false := by simpa using h6
            have ht : timesN ⟨op, ⟨x0, x1, x2, x3⟩, xn, xmin, xmax, xk⟩ = 1 := by simp [timesN, h6]
            have HT := Lib.hid (show timesN ⟨op, ⟨x0, x1, x2, x3⟩, xn, xmin, xmax, xk⟩ * sum = sum from by rw [ht]; exact Int.one_mul _)
            clear ht
            by_cases hm : 16385 < 1 + sum
            · go_wp2_with fail
              go_ret2
              exact ⟨by rw [HT.out, show min (sum + 1) 16385 = 16385 by omega]; rfl, HB.out⟩
            · go_wp2_with fail
              go_ret2
              exact ⟨by rw [HT.out, show min (sum + 1) 16385 = 1 + sum by omega]; rfl, HB.out⟩
end Go.Proofs.Ytbdjcmhfcdamiaa
