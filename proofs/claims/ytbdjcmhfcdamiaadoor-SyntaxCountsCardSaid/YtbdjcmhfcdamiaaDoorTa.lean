/- Contracts on lists of nodes in memory: weigh. -/
import Derived.Test.YtbdjcmhfcdamiaaDoorRe
import Derived.Test.YtbdjcmhfcdamiaaDoorTs
import Derived.Deep.DeepCutAuto
namespace Go.Proofs.YtbdjcmhfcdamiaaDoor
open Go.RowKit

/-- Nodes in memory. -/
structure NdAt (w : World) (nb no : Nat) (re : List Nd) : Prop where
  lt : nb < w.heap.size
  len : re.length ≤ 4294967296
  c : ∀ i, i < re.length → ∀ j, w.cell? ⟨nb, no + i * 9 + j, none⟩ = (ndCells (re.getD i Nd.zero))[j]? ∨ 9 ≤ j
  k : ∀ x ∈ re, x.kids ≤ 9223372036854775807
theorem NdAt.below {w w' : World} {nb no : Nat} {re : List Nd} (h : NdAt w nb no re) (hb : Below w.heap.size w w') : NdAt w' nb no re :=
  ⟨Nat.lt_of_lt_of_le h.lt hb.size, h.len, fun i hi j => (h.c i hi j).imp (fun e => (hb.cell (p := ⟨nb, no + i * 9 + j, none⟩) h.lt).trans e) id, h.k⟩
theorem NdAt.cells {w : World} {nb no : Nat} {re : List Nd} (h : NdAt w nb no re) {i : Nat} {x : Nd} (hx : re[i]? = some x) :
    w.cell? ⟨nb, no + i * 9, none⟩ = some (.int .i8 x.op) ∧ w.cell? ⟨nb, no + i * 9 + 1, none⟩ = some (.int .u64 x.set.w0.toNat) ∧ w.cell? ⟨nb, no + i * 9 + 2, none⟩ = some (.int .u64 x.set.w1.toNat) ∧ w.cell? ⟨nb, no + i * 9 + 3, none⟩ = some (.int .u64 x.set.w2.toNat) ∧ w.cell? ⟨nb, no + i * 9 + 4, none⟩ = some (.int .u64 x.set.w3.toNat) ∧
    w.cell? ⟨nb, no + i * 9 + 5, none⟩ = some (.int .i64 x.n) ∧ w.cell? ⟨nb, no + i * 9 + 6, none⟩ = some (.int .i64 x.min) ∧ w.cell? ⟨nb, no + i * 9 + 7, none⟩ = some (.int .i64 x.max) ∧ w.cell? ⟨nb, no + i * 9 + 8, none⟩ = some (.int .i64 x.kids) := by
  have hi : i < re.length := (List.getElem?_eq_some_iff.1 hx).1
  have hg : re.getD i Nd.zero = x := by simp [List.getD_eq_getElem?_getD, hx]
  have hc : ∀ j, j < 9 → w.cell? ⟨nb, no + i * 9 + j, none⟩ = (ndCells x)[j]? := fun j hj => by
    rw [← hg]; exact (h.c i hi j).resolve_right (by omega)
  exact ⟨hc 0 (by decide), hc 1 (by decide), hc 2 (by decide), hc 3 (by decide), hc 4 (by decide), hc 5 (by decide), hc 6 (by decide), hc 7 (by decide), hc 8 (by decide)⟩

/-- The repetitions' numbers are small. -/
def RepOk (re : List Nd) : Prop := ∀ x ∈ re, x.op = 6 → 0 ≤ x.min ∧ x.min ≤ 255 ∧ -1 ≤ x.max ∧ x.max ≤ 255
theorem kidsW_bounds {re : List Nd} {g : Nat → Option (Int × Nat)} (hg : ∀ i r, g i = some r → 1 ≤ r.1 ∧ r.1 ≤ 16385 ∧ i < r.2 ∧ r.2 ≤ re.length) : ∀ (k : Nat) (sum : Int) (i : Nat) (r : Int × Nat), 0 ≤ sum → sum ≤ 16385 → i ≤ re.length → kidsW g k sum i = some r → 0 ≤ r.1 ∧ r.1 ≤ 16385 ∧ i ≤ r.2 ∧ r.2 ≤ re.length
  | 0, sum, i, r, h1, h2, h3, h => by simp only [kidsW, Option.some.injEq] at h; subst h; exact ⟨h1, h2, Nat.le_refl _, h3⟩
  | k + 1, sum, i, r, h1, h2, h3, h => by
    unfold kidsW at h
    split at h
    · cases h
    · rename_i w nx hx
      have h4 := hg _ _ hx
      simp only at h4
      have h5 := kidsW_bounds hg k _ _ _ (by omega) (by omega) h4.2.2.2 h
      omega
theorem weighN_bounds {re : List Nd} (hr : RepOk re) : ∀ (f i : Nat) (r : Int × Nat), weighN re f i = some r → 1 ≤ r.1 ∧ r.1 ≤ 16385 ∧ i < r.2 ∧ r.2 ≤ re.length
  | 0, _, _, h => by simp [weighN] at h
  | f + 1, i, r, h => by
    unfold weighN at h
    split at h
    · cases h
    · rename_i n hn
      have hi : i < re.length := (List.getElem?_eq_some_iff.1 hn).1
      split at h
      · cases h
      · rename_i sm nx hk
        have h1 := kidsW_bounds (re := re) (fun i r => weighN_bounds hr f i r) _ _ _ _ (by omega) (by omega) (by omega) hk
        simp only at h1
        cases h
        have ht : 0 ≤ timesN n := by
          unfold timesN
          split
          · rename_i h6
            have := hr n (List.mem_of_getElem? hn) h6
            split <;> omega
          · omega
        have hm := Int.mul_nonneg ht h1.1
        simp only
        omega

set_option maxRecDepth 100000 in
set_option maxHeartbeats 1600000 in
theorem weigh_any {re : List Nd} {nb no cap : Nat} (hr : RepOk re) : ∀ (f i : Nat) (r : Int × Nat) (w : World) (iv : Int), iv = i → NdAt w nb no re → weighN re f i = some r →
    Calls Tryd.prog 51 #[.slice (some ⟨nb, no, none⟩) re.length cap, .int .i64 iv] w fun e w' => e = .returned (.tuple #[.int .i64 r.1, .int .i64 (r.2 : Nat)]) ∧ Below w.heap.size w w'
  | 0, _, _, _, _, _, _, h => by simp [weighN] at h
  | f + 1, i, r, w, iv, hiv, hn, h => by
    subst hiv
    have ih := fun (i : Nat) (r : Int × Nat) (w : World) (iv : Int) (hiv : iv = i) (h : NdAt w nb no re) (hw : weighN re f i = some r) => weigh_any (cap := cap) hr f i r w iv hiv h hw
    have hbn := Lib.hid (fun i r => weighN_bounds hr f i r)
    have hb := weighN_bounds hr _ _ _ h
    unfold weighN at h
    cases hx : re[i]? with
    | none => rw [hx] at h; cases h
    | some n =>
      rw [hx] at h
      simp only at h
      have hi : i < re.length := (List.getElem?_eq_some_iff.1 hx).1
      have hi' : (i : Int) < (re.length : Int) := by omega
      have hlen := hn.len
      obtain ⟨c0, c1, c2, c3, c4, c5, c6, c7, c8⟩ := hn.cells hx
      have nbl := hn.lt
      have hmem := List.mem_of_getElem? hx
      have hkm := hn.k n hmem
      have hrn := Lib.hid (hr n hmem)
      obtain ⟨op, ⟨x0, x1, x2, x3⟩, xn, xmin, xmax, xk⟩ := n
      simp only at c0 c1 c2 c3 c4 c5 c6 c7 c8 hkm hrn h
      have HN := Lib.hid hn
      have HIH := Lib.hid ih
      have H := Lib.hid h
      clear ih hn hx h
      cases hk : kidsW (weighN re f) xk.toNat 0 (i + 1) with
      | none => have := H.out; rw [hk] at this; cases this
      | some q =>
      obtain ⟨sm, nx⟩ := q
      have HQ := H.out
      rw [hk] at HQ
      simp only [Option.some.injEq] at HQ
      have HK := Lib.hid hk
      clear hk H hb
      subst HQ
      simp only
      have hx0 := xk.toNat
      go_enter Tryd.func51, Tryd.ntmps51
      go_wp2_with fail
      go_loopg [7, 8, 19] xk.toNat (fun g s t j wr => ∃ (sum : Int) (p d : Nat), s = .int .i64 sum ∧ t = .int .i64 (p : Nat) ∧ j = .int .i64 (d : Nat) ∧ g = xk.toNat - d ∧ d ≤ xk.toNat ∧ 0 ≤ sum ∧ sum ≤ 16385 ∧ p ≤ re.length ∧ Below w.heap.size w wr ∧ ndAt wr w.heap.size ⟨op, ⟨x0, x1, x2, x3⟩, xn, xmin, xmax, xk⟩ ∧
        Hid (kidsW (weighN re f) (xk.toNat - d) sum p = some (sm, nx)))
      case atStart => exact ⟨0, i + 1, 0, rfl, by go_num, rfl, by omega, by omega, by omega, by omega, by omega, (Below.refl _ _).alloc (Nat.le_refl _) _, heap_alloc_new _ _, HK.out⟩
      case round =>
        obtain ⟨sum, p, d, rfl, rfl, rfl, hg, hd, hs1, hs2, hp, hbe, hnd, HS⟩ := hrel
        have HG := Lib.hid hg
        clear hg
        by_cases hlt : d < xk.toNat
        · have hlt' : (d : Int) < xk := by omega
          have HS1 := HS.out
          rw [show xk.toNat - d = (xk.toNat - (d + 1)) + 1 by omega, kidsW] at HS1
          cases hw : weighN re f p with
          | none => rw [hw] at HS1; cases HS1
          | some q =>
            obtain ⟨w2, n2⟩ := q
            rw [hw] at HS1
            simp only at HS1
            have hb2 := hbn.out _ _ hw
            simp only at hb2
            have HSZ := Lib.hid HS1
            have hih := HIH.out p (w2, n2) wr p rfl (HN.out.below hbe) hw
            have HB := Lib.hid hbe
            have HD := Lib.hid hnd
            clear HS1 hw hbe hnd HS
            go_wp2_with fail
            refine hih.mono ?_; rintro e w3 ⟨rfl, hb3⟩
            have HB3 := Lib.hid (HB.out.trans (hb3.mono HB.out.size))
            have HD3 := Lib.hid (HD.out.below hb3)
            clear hih hb3
            by_cases hm : 16385 < sum + w2
            · have he : min (sum + w2) 16385 = 16385 := by omega
              rw [he] at HSZ
              clear he
              go_wp2_with fail
              go_roundg (xk.toNat - (d + 1))
              case measure => have := HG.out; omega
              case rel => exact ⟨16385, n2, d + 1, rfl, rfl, by go_num, rfl, by omega, by omega, by omega, hb2.2.2.2, HB3.out, HD3.out, HSZ.out⟩
            · have he : min (sum + w2) 16385 = sum + w2 := by omega
              rw [he] at HSZ
              clear he
              go_wp2_with fail
              go_roundg (xk.toNat - (d + 1))
              case measure => have := HG.out; omega
              case rel => exact ⟨sum + w2, n2, d + 1, rfl, rfl, by go_num, rfl, by omega, by omega, by omega, hb2.2.2.2, HB3.out, HD3.out, HSZ.out⟩
        · have hlt' : ¬ (d : Int) < xk := by omega
          have HS1 := HS.out
          rw [show xk.toNat - d = 0 by omega, kidsW] at HS1
          simp only [Option.some.injEq, Prod.mk.injEq] at HS1
          obtain ⟨e1, e2⟩ := HS1
          subst e1 e2
          obtain ⟨d0, d1, d2, d3, d4, d5, d6, d7, d8, g0⟩ := hnd.cells
          simp only at d0 d1 d2 d3 d4 d5 d6 d7 d8
          have hBl := hnd.lt
          have HB := Lib.hid hbe
          clear hnd hbe HS
          by_cases h6 : op = 6
          · have hr6 := hrn.out h6
            subst h6
            by_cases hmx : xmax < 0
            · have ht : timesN ⟨6, ⟨x0, x1, x2, x3⟩, xn, xmin, xmax, xk⟩ = xmin + 1 := by simp [timesN, hmx]
              have hmul : 0 ≤ sum * (xmin + 1) ∧ sum * (xmin + 1) ≤ 16385 * 256 := ⟨Int.mul_nonneg hs1 (by omega), Int.mul_le_mul hs2 (by omega) (by omega) (by omega)⟩
              have HT := Lib.hid (show timesN ⟨6, ⟨x0, x1, x2, x3⟩, xn, xmin, xmax, xk⟩ * sum = sum * (xmin + 1) from by rw [ht]; exact Int.mul_comm _ _)
              clear ht
              by_cases hm : 16385 < sum * (xmin + 1) + 1
              · go_wp2_with fail
                go_ret2
                exact ⟨by rw [HT.out, show min (sum * (xmin + 1) + 1) 16385 = 16385 by omega]; rfl, HB.out⟩
              · go_wp2_with fail
                go_ret2
                exact ⟨by rw [HT.out, show min (sum * (xmin + 1) + 1) 16385 = sum * (xmin + 1) + 1 by omega]; rfl, HB.out⟩
            · by_cases h1 : xmax < 1
              · have ht : timesN ⟨6, ⟨x0, x1, x2, x3⟩, xn, xmin, xmax, xk⟩ = 1 := by simp only [timesN, if_true, if_neg hmx]; omega
                have HT := Lib.hid (show timesN ⟨6, ⟨x0, x1, x2, x3⟩, xn, xmin, xmax, xk⟩ * sum = sum from by rw [ht]; exact Int.one_mul _)
                clear ht
                by_cases hm : 16385 < sum + 1
                · go_wp2_with fail
                  go_ret2
                  exact ⟨by rw [HT.out, show min (sum + 1) 16385 = 16385 by omega]; rfl, HB.out⟩
                · go_wp2_with fail
                  go_ret2
                  exact ⟨by rw [HT.out, show min (sum + 1) 16385 = sum + 1 by omega]; rfl, HB.out⟩
              · have ht : timesN ⟨6, ⟨x0, x1, x2, x3⟩, xn, xmin, xmax, xk⟩ = xmax := by simp only [timesN, if_true, if_neg hmx]; omega
                have hmul : 0 ≤ sum * xmax ∧ sum * xmax ≤ 16385 * 255 := ⟨Int.mul_nonneg hs1 (by omega), Int.mul_le_mul hs2 (by omega) (by omega) (by omega)⟩
                have HT := Lib.hid (show timesN ⟨6, ⟨x0, x1, x2, x3⟩, xn, xmin, xmax, xk⟩ * sum = sum * xmax from by rw [ht]; exact Int.mul_comm _ _)
                clear ht
                by_cases hm : 16385 < sum * xmax + 1
                · go_wp2_with fail
                  go_ret2
                  exact ⟨by rw [HT.out, show min (sum * xmax + 1) 16385 = 16385 by omega]; rfl, HB.out⟩
                · go_wp2_with fail
                  go_ret2
                  exact ⟨by rw [HT.out, show min (sum * xmax + 1) 16385 = sum * xmax + 1 by omega]; rfl, HB.out⟩
          · have ht : timesN ⟨op, ⟨x0, x1, x2, x3⟩, xn, xmin, xmax, xk⟩ = 1 := by simp [timesN, h6]
            have HT := Lib.hid (show timesN ⟨op, ⟨x0, x1, x2, x3⟩, xn, xmin, xmax, xk⟩ * sum = sum from by rw [ht]; exact Int.one_mul _)
            clear ht
            by_cases hm : 16385 < sum + 1
            · go_wp2_with fail
              go_ret2
              exact ⟨by rw [HT.out, show min (sum + 1) 16385 = 16385 by omega]; rfl, HB.out⟩
            · go_wp2_with fail
              go_ret2
              exact ⟨by rw [HT.out, show min (sum + 1) 16385 = sum + 1 by omega]; rfl, HB.out⟩
end Go.Proofs.YtbdjcmhfcdamiaaDoor
