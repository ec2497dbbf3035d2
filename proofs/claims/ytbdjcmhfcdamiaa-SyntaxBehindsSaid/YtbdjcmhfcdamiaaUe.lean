/- Contracts of the reference's functions on trees: Behind. -/
import Derived.Test.YtbdjcmhfcdamiaaUd
import Derived.Test.YtbdjcmhfcdamiaaTk
namespace Go.Proofs.Ytbdjcmhfcdamiaa
open Go.RowKit

theorem kidsW_any {g : Nat → Option (Int × Nat)} : ∀ (k : Nat) (s : Int) (i : Nat) (r : Int) (j : Nat), kidsW g k s i = some (r, j) → ∀ s', ∃ r', kidsW g k s' i = some (r', j)
  | 0, s, i, r, j, h, s' => by
    simp only [kidsW, Option.some.injEq, Prod.mk.injEq] at h
    exact ⟨s', by simp only [kidsW]; rw [h.2]⟩
  | k + 1, s, i, r, j, h, s' => by
    unfold kidsW at h ⊢
    split at h
    · cases h
    · exact kidsW_any k _ _ _ _ h _
theorem kidsW_add (g : Nat → Option (Int × Nat)) : ∀ (m n : Nat) (s : Int) (i : Nat) (r : Int) (j : Nat), kidsW g m s i = some (r, j) → kidsW g (m + n) s i = kidsW g n r j
  | 0, n, s, i, r, j, h => by
    simp only [kidsW, Option.some.injEq, Prod.mk.injEq] at h
    rw [h.1, h.2, Nat.zero_add]
  | m + 1, n, s, i, r, j, h => by
    rw [kidsW] at h
    rw [show m + 1 + n = (m + n) + 1 by omega, kidsW]
    split at h
    · cases h
    · exact kidsW_add g m n _ _ _ _ h
theorem kidsW_len {re : List Nd} {g : Nat → Option (Int × Nat)} (hg : ∀ i r, g i = some r → i < r.2 ∧ r.2 ≤ re.length) : ∀ (k : Nat) (s : Int) (i : Nat) (r : Int × Nat), i ≤ re.length → kidsW g k s i = some r → i + k ≤ r.2 ∧ r.2 ≤ re.length
  | 0, s, i, r, hi, h => by
    simp only [kidsW, Option.some.injEq] at h
    subst h
    exact ⟨Nat.le_refl _, hi⟩
  | k + 1, s, i, r, hi, h => by
    unfold kidsW at h
    split at h
    · cases h
    · rename_i w nx hx
      have h1 := hg _ _ hx
      simp only at h1
      have h2 := kidsW_len hg k _ _ _ h1.2 h
      omega
/-- Trees that are still to be passed: one step. -/
theorem kidsW_step {re : List Nd} {F l p z : Nat} {s r : Int} (h : kidsW (weighN re F) (l + 1) s p = some (r, z)) : ∃ x F' s' r', re[p]? = some x ∧ kidsW (weighN re F') (x.kids.toNat + l) s' (p + 1) = some (r', z) := by
  unfold kidsW at h
  split at h
  · cases h
  · rename_i w nx hx
    cases F with
    | zero => simp [weighN] at hx
    | succ F =>
      have hx2 := hx
      rw [weighN] at hx2
      split at hx2
      · cases hx2
      · rename_i x hre
        split at hx2
        · cases hx2
        · rename_i sm nx2 hk
          simp only [Option.some.injEq, Prod.mk.injEq] at hx2
          rw [hx2.2] at hk
          have hk2 := kidsW_mono (fun i r => weighN_succ re F i r) _ _ _ _ hk
          obtain ⟨r', hr'⟩ := kidsW_any _ _ _ _ _ h sm
          exact ⟨x, F + 1, 0, r', hre, by rw [kidsW_add _ _ _ _ _ _ _ hk2]; exact hr'⟩
theorem shapedN_good {re : List Nd} (h : shapedN re = true) : ∀ x ∈ re, 0 ≤ x.kids := fun x hx => by
  unfold shapedN at h
  split at h
  · cases h
  · rename_i j en hn
    simp only [Bool.and_eq_true, decide_eq_true_eq] at h
    obtain ⟨p, hp⟩ := List.mem_iff_getElem?.1 hx
    obtain ⟨y, hy, hg⟩ := (nodeN_good re _ _ _ _ _ hn).2.2 p (Nat.zero_le _) (by have := (List.getElem?_eq_some_iff.1 hp).1; simp only; omega)
    rw [hp] at hy
    cases hy
    have hg1 := hg.1
    simp only [goodN, Bool.and_eq_true] at hg1
    have h5 := hg1.2
    split at h5
    · simp only [beq_iff_eq] at h5; omega
    · split at h5
      · simp only [decide_eq_true_eq] at h5; omega
      · split at h5
        · simp only [Bool.or_eq_true, beq_iff_eq, decide_eq_true_eq] at h5; omega
        · simp only [beq_iff_eq] at h5; omega
set_option maxRecDepth 100000 in
set_option maxHeartbeats 1600000 in
/-- Behind. -/
theorem rbehind_call {re : List Nd} {oa : Option Addr} {cap : Nat} {w : World} (HOP : Hid (∀ x ∈ re, -128 ≤ x.op ∧ x.op ≤ 127)) (i : Int) (h : NdV w oa re) :
    Calls Try.prog 26 #[.slice oa re.length cap, .int .i64 i] w fun e w' => e = .returned (.int .i64 (behindN re i)) ∧ Below w.heap.size w w' := by
  have hs := rshaped_call (cap := cap) HOP h
  have hlen := h.len
  have HV := Lib.hid h
  clear h
  cases hsh : shapedN re with
  | false =>
    have HW : Hid (behindN re i = -1) := by rw [Hid, behindN, hsh]; rfl
    rw [hsh] at hs
    have HS := Lib.hid hs
    clear hs
    go_enter Try.func26, Try.ntmps26
    go_wp2_with fail
    refine HS.out.mono ?_; rintro e w1 ⟨rfl, hb1⟩
    have HB := Lib.hid hb1
    clear hb1 HS
    go_wp2_with fail
    go_ret
    exact ⟨by rw [HW.out]; rfl, HB.out⟩
  | true =>
    rw [hsh] at hs
    have HS := Lib.hid hs
    clear hs
    by_cases h1 : i < 0
    · have HW : Hid (behindN re i = -1) := by rw [Hid, behindN, hsh]; simp; omega
      have h1' : decide (i < 0) = true := by simpa using h1
      go_enter Try.func26, Try.ntmps26
      go_wp2_with fail
      refine HS.out.mono ?_; rintro e w1 ⟨rfl, hb1⟩
      have HB := Lib.hid hb1
      clear hb1 HS
      go_wp2_with fail
      go_ret
      exact ⟨by rw [HW.out]; rfl, HB.out⟩
    have h1' : decide (i < 0) = false := by simpa using h1
    by_cases h2 : (re.length : Int) ≤ i
    · have HW : Hid (behindN re i = -1) := by rw [Hid, behindN, hsh]; simp; omega
      have h2' : decide ((re.length : Int) ≤ i) = true := by simpa using h2
      go_enter Try.func26, Try.ntmps26
      go_wp2_with fail
      refine HS.out.mono ?_; rintro e w1 ⟨rfl, hb1⟩
      have HB := Lib.hid hb1
      clear hb1 HS
      go_wp2_with fail
      go_ret
      exact ⟨by rw [HW.out]; rfl, HB.out⟩
    have h2' : decide ((re.length : Int) ≤ i) = false := by simpa using h2
    obtain ⟨p0, rfl⟩ : ∃ p0 : Nat, i = (p0 : Int) := ⟨i.toNat, by omega⟩
    have hp : p0 < re.length := by omega
    have h2n : decide (re.length ≤ p0) = false := decide_eq_false (by omega)
    obtain ⟨hok, hall⟩ := shapedN_spec hsh
    obtain ⟨⟨W, nx⟩, hw⟩ := hall p0 hp
    have HWT : Hid (behindN re (p0 : Int) = (nx : Int)) := by
      rw [Hid, behindN, hsh, Int.toNat_natCast, hw]
      simp only [Bool.true_and, Bool.and_eq_true, decide_eq_true_eq]
      rw [if_pos ⟨by omega, by omega⟩]
    have HK0 := Lib.hid (show ∃ r, kidsW (weighN re 260) 1 0 p0 = some (r, nx) from ⟨min (0 + W) 16385, by simp only [kidsW, hw]⟩)
    have HGD := Lib.hid (shapedN_good hsh)
    have HBD := Lib.hid (fun F i r => weighN_bounds hok F i r)
    obtain ⟨nb, no, rfl, hn⟩ := HV.out.at_ (by omega)
    have HN := Lib.hid hn
    clear hn hw hall hok
    go_enter Try.func26, Try.ntmps26
    go_wp2_with fail
    refine HS.out.mono ?_; rintro e w1 ⟨rfl, hb1⟩
    have HB := Lib.hid hb1
    clear hb1 HS
    go_wp2_with fail
    go_loopg [1, 5] (re.length - p0) (fun n pv lv wr => ∃ (p l : Nat), pv = .int .i64 (p : Nat) ∧ lv = .int .i64 (l : Nat) ∧ n = re.length - p ∧ p ≤ re.length ∧ l ≤ re.length ∧ Hid (∃ F s r, kidsW (weighN re F) l s p = some (r, nx)) ∧ Below w.heap.size w wr)
    case atStart =>
      obtain ⟨r, hr⟩ := HK0.out
      exact ⟨p0, 1, rfl, by go_num, by omega, by omega, by omega, ⟨260, 0, r, hr⟩, HB.out⟩
    case round =>
      obtain ⟨p, l, rfl, rfl, hg, hpl, hll, HK, hb2⟩ := hrel
      have HG := Lib.hid hg
      have HB2 := Lib.hid hb2
      clear hg hb2
      by_cases hl0 : 0 < l
      · obtain ⟨l, rfl⟩ : ∃ m, l = m + 1 := ⟨l - 1, by omega⟩
        obtain ⟨F, s, r, hk⟩ := HK.out
        obtain ⟨x, F', s', r', hx, hk'⟩ := kidsW_step hk
        have hpx : p < re.length := (List.getElem?_eq_some_iff.1 hx).1
        have hx0 := HGD.out x (List.mem_of_getElem? hx)
        have hlb := kidsW_len (re := re) (fun i r h => by have := HBD.out F' i r h; omega) _ _ _ _ (by omega) hk'
        simp only at hlb
        have hnr := HN.out.below HB2.out
        obtain ⟨n0, n1, n2, n3, n4, n5, n6, n7, n8⟩ := hnr.cells hx
        have nbl := hnr.lt
        obtain ⟨k, hxk⟩ : ∃ k : Nat, x.kids = (k : Int) := ⟨x.kids.toNat, by omega⟩
        rw [hxk] at n8 hk' hlb
        rw [Int.toNat_natCast] at hk' hlb
        have HK2 := Lib.hid hk'
        have hpx' : (p : Int) < (re.length : Int) := by omega
        clear hk hk' hxk hx0 hx hnr HK n0 n1 n2 n3 n4 n5 n6 n7
        go_wp2_with fail
        go_roundg (re.length - (p + 1))
        case measure => have := HG.out; omega
        case rel => exact ⟨p + 1, k + l, by go_num, by rw [show ((l : Int) + (k : Int)) = ((k + l : Nat) : Int) by omega], rfl, by omega, by omega, ⟨F', s', r', HK2.out⟩, HB2.out⟩
      · have hl1 : l = 0 := by omega
        subst hl1
        obtain ⟨F, s, r, hk⟩ := HK.out
        simp only [kidsW, Option.some.injEq, Prod.mk.injEq] at hk
        have hpn := hk.2
        subst hpn
        clear hk HK
        go_wp2_with fail
        go_ret
        exact ⟨by rw [HWT.out]; rfl, HB2.out⟩
end Go.Proofs.Ytbdjcmhfcdamiaa
