/- Contracts of the reference's functions on trees: fields, kids. -/
import Derived.Test.YtbdjcmhfcdamiaaTd
namespace Go.Proofs.Ytbdjcmhfcdamiaa
open Go.RowKit

/-- Has a node just what its kind names? May it have so many kids? -/
def fieldsN (n : Nd) : Bool :=
  decide (1 ≤ n.op) && decide (n.op ≤ 8)
  && (n.op == 1 || n.set == Cls.zero)
  && (n.op == 7 || n.op == 8 || n.n == 0)
  && (if n.op = 6 then decide (0 ≤ n.min) && decide (n.min ≤ 255) && (n.max == -1 || decide (n.min ≤ n.max) && decide (n.max ≤ 255)) else n.min == 0 && n.max == 0)
def kidsNd (n : Nd) : Bool := if n.op = 6 ∨ n.op = 7 then n.kids == 1 else if n.op = 5 then decide (2 ≤ n.kids) else if n.op = 4 then n.kids == 0 || decide (2 ≤ n.kids) else n.kids == 0
theorem goodN_parts (n : Nd) : goodN n = (fieldsN n && kidsNd n) := rfl
theorem cls_eq10 (b c d e b' c' d' e' : Int) (w : World) :
    (Op.equalIn 10000 31 (.agg #[.int .u64 b, .int .u64 c, .int .u64 d, .int .u64 e]) (.agg #[.int .u64 b', .int .u64 c', .int .u64 d', .int .u64 e'])).run Try.prog w = .ok (decide (b = b') && decide (c = c') && decide (d = d') && decide (e = e')) w := by
  obtain ⟨i, hi⟩ : ∃ i, Try.prog.info? 29 = some i := Option.isSome_iff_exists.1 (by kernel_rfl)
  rw [run_equalIn_array w 9999 _ _ Try.underlying31 hi, show Try.prog.cellsOf 29 = 1 by kernel_rfl]
  simp [Op.eqItems, go_sem, List.range_succ]
  repeat' split
  all_goals simp_all
theorem neq_cls (x0 x1 x2 x3 : BitVec 64) (b : Bool) (hb : ((⟨x0, x1, x2, x3⟩ : Cls) == Cls.zero) = b) (w : World) :
    (binOp .neq 31 (.agg #[.int .u64 x0.toNat, .int .u64 x1.toNat, .int .u64 x2.toNat, .int .u64 x3.toNat]) (.agg #[.int .u64 0, .int .u64 0, .int .u64 0, .int .u64 0])).run Try.prog w = .ok (.bool (!b)) w := by
  rw [run_neq_struct, cls_eq10, ← hb, cls_zero]
  simp only [Result.andThen]
  congr 3
  rw [Bool.eq_iff_iff]
  simp [and_assoc]
theorem fields_out (x : Nd) (h : x.op < 1 ∨ 8 < x.op) : fieldsN x = false := by
  unfold fieldsN
  rcases h with h | h
  · rw [decide_eq_false (by omega)]; simp
  · rw [decide_eq_false (show ¬ x.op ≤ 8 by omega)]; simp
set_option maxRecDepth 100000 in
set_option maxHeartbeats 1600000 in
theorem fields_any (x : Nd) (w : World) (h1 : -128 ≤ x.op) (h2 : x.op ≤ 127) : Calls Try.prog 41 #[ndV x] w fun e w' => e = .returned (.bool (fieldsN x)) ∧ Below w.heap.size w w' := by
  by_cases ho : x.op < 1
  · have hf := Lib.hid (fields_out x (.inl ho))
    obtain ⟨op, ⟨x0, x1, x2, x3⟩, xn, xmin, xmax, xk⟩ := x
    simp only at h1 h2 ho
    have ho' : decide (op < 1) = true := decide_eq_true ho
    go_enter Try.func41, Try.ntmps41
    go_wp2_with fail
    go_ret
    exact ⟨by rw [hf.out]; rfl, (by repeat (first | exact Below.refl _ _ | assumption | refine Below.drew ?_ | refine Below.alloc ?_ (by first | (simp; done) | (simp; omega) | omega) _ | refine Below.setCell ?_ (by first | (simp; done) | (simp; omega) | omega) _))⟩
  by_cases ho8 : 8 < x.op
  · have hf := Lib.hid (fields_out x (.inr ho8))
    obtain ⟨op, ⟨x0, x1, x2, x3⟩, xn, xmin, xmax, xk⟩ := x
    simp only at h1 h2 ho ho8
    have ho' : decide (op < 1) = false := decide_eq_false ho
    have ho8' : decide (8 < op) = true := decide_eq_true ho8
    go_enter Try.func41, Try.ntmps41
    go_wp2_with fail
    go_ret
    exact ⟨by rw [hf.out]; rfl, (by repeat (first | exact Below.refl _ _ | assumption | refine Below.drew ?_ | refine Below.alloc ?_ (by first | (simp; done) | (simp; omega) | omega) _ | refine Below.setCell ?_ (by first | (simp; done) | (simp; omega) | omega) _))⟩
  have h8 : x.op = 1 ∨ x.op = 2 ∨ x.op = 3 ∨ x.op = 4 ∨ x.op = 5 ∨ x.op = 6 ∨ x.op = 7 ∨ x.op = 8 := by omega
  obtain ⟨op, ⟨x0, x1, x2, x3⟩, xn, xmin, xmax, xk⟩ := x
  simp only at h8
  clear h1 h2 ho ho8
  have hq := neq_cls x0 x1 x2 x3 _ rfl
  rcases h8 with rfl | rfl | rfl | rfl | rfl | rfl | rfl | rfl
  · -- a set
    cases hn : (xn == 0) with
    | false =>
      have hn' : (xn != 0) = true := by rw [bne, hn]; rfl
      have HF : Hid (fieldsN ⟨1, ⟨x0, x1, x2, x3⟩, xn, xmin, xmax, xk⟩ = false) := by simp [Hid, fieldsN, hn]
      clear hq
      go_enter Try.func41, Try.ntmps41
      go_wp2_with fail
      go_ret
      exact ⟨by rw [HF.out]; rfl, (by repeat (first | exact Below.refl _ _ | assumption | refine Below.drew ?_ | refine Below.alloc ?_ (by first | (simp; done) | (simp; omega) | omega) _ | refine Below.setCell ?_ (by first | (simp; done) | (simp; omega) | omega) _))⟩
    | true =>
      have hn' : (xn != 0) = false := by rw [bne, hn]; rfl
      have HF : Hid (fieldsN ⟨1, ⟨x0, x1, x2, x3⟩, xn, xmin, xmax, xk⟩ = (xmin == 0 && xmax == 0)) := by simp [Hid, fieldsN, hn]
      clear hq
      cases hm : (xmin == 0)
      all_goals
        rw [hm] at HF
        go_enter Try.func41, Try.ntmps41
        go_wp2_with fail
        go_ret
        exact ⟨by rw [HF.out]; rfl, (by repeat (first | exact Below.refl _ _ | assumption | refine Below.drew ?_ | refine Below.alloc ?_ (by first | (simp; done) | (simp; omega) | omega) _ | refine Below.setCell ?_ (by first | (simp; done) | (simp; omega) | omega) _))⟩
  · -- 2
    cases hz : ((⟨x0, x1, x2, x3⟩ : Cls) == Cls.zero) with
    | false =>
      rw [hz] at hq
      have HF : Hid (fieldsN ⟨2, ⟨x0, x1, x2, x3⟩, xn, xmin, xmax, xk⟩ = false) := by simp [Hid, fieldsN, hz]
      clear hz
      go_enter Try.func41, Try.ntmps41
      go_wp2_with fail
      go_ret
      exact ⟨by rw [HF.out]; rfl, (by repeat (first | exact Below.refl _ _ | assumption | refine Below.drew ?_ | refine Below.alloc ?_ (by first | (simp; done) | (simp; omega) | omega) _ | refine Below.setCell ?_ (by first | (simp; done) | (simp; omega) | omega) _))⟩
    | true =>
      rw [hz] at hq
      cases hn : (xn == 0) with
      | false =>
        have hn' : (xn != 0) = true := by rw [bne, hn]; rfl
        have HF : Hid (fieldsN ⟨2, ⟨x0, x1, x2, x3⟩, xn, xmin, xmax, xk⟩ = false) := by simp [Hid, fieldsN, hz, hn]
        clear hz
        go_enter Try.func41, Try.ntmps41
        go_wp2_with fail
        go_ret
        exact ⟨by rw [HF.out]; rfl, (by repeat (first | exact Below.refl _ _ | assumption | refine Below.drew ?_ | refine Below.alloc ?_ (by first | (simp; done) | (simp; omega) | omega) _ | refine Below.setCell ?_ (by first | (simp; done) | (simp; omega) | omega) _))⟩
      | true =>
        have hn' : (xn != 0) = false := by rw [bne, hn]; rfl
        have HF : Hid (fieldsN ⟨2, ⟨x0, x1, x2, x3⟩, xn, xmin, xmax, xk⟩ = (xmin == 0 && xmax == 0)) := by simp [Hid, fieldsN, hz, hn]
        clear hz
        cases hm : (xmin == 0)
        all_goals
          rw [hm] at HF
          go_enter Try.func41, Try.ntmps41
          go_wp2_with fail
          go_ret
          exact ⟨by rw [HF.out]; rfl, (by repeat (first | exact Below.refl _ _ | assumption | refine Below.drew ?_ | refine Below.alloc ?_ (by first | (simp; done) | (simp; omega) | omega) _ | refine Below.setCell ?_ (by first | (simp; done) | (simp; omega) | omega) _))⟩
  · -- 3
    cases hz : ((⟨x0, x1, x2, x3⟩ : Cls) == Cls.zero) with
    | false =>
      rw [hz] at hq
      have HF : Hid (fieldsN ⟨3, ⟨x0, x1, x2, x3⟩, xn, xmin, xmax, xk⟩ = false) := by simp [Hid, fieldsN, hz]
      clear hz
      go_enter Try.func41, Try.ntmps41
      go_wp2_with fail
      go_ret
      exact ⟨by rw [HF.out]; rfl, (by repeat (first | exact Below.refl _ _ | assumption | refine Below.drew ?_ | refine Below.alloc ?_ (by first | (simp; done) | (simp; omega) | omega) _ | refine Below.setCell ?_ (by first | (simp; done) | (simp; omega) | omega) _))⟩
    | true =>
      rw [hz] at hq
      cases hn : (xn == 0) with
      | false =>
        have hn' : (xn != 0) = true := by rw [bne, hn]; rfl
        have HF : Hid (fieldsN ⟨3, ⟨x0, x1, x2, x3⟩, xn, xmin, xmax, xk⟩ = false) := by simp [Hid, fieldsN, hz, hn]
        clear hz
        go_enter Try.func41, Try.ntmps41
        go_wp2_with fail
        go_ret
        exact ⟨by rw [HF.out]; rfl, (by repeat (first | exact Below.refl _ _ | assumption | refine Below.drew ?_ | refine Below.alloc ?_ (by first | (simp; done) | (simp; omega) | omega) _ | refine Below.setCell ?_ (by first | (simp; done) | (simp; omega) | omega) _))⟩
      | true =>
        have hn' : (xn != 0) = false := by rw [bne, hn]; rfl
        have HF : Hid (fieldsN ⟨3, ⟨x0, x1, x2, x3⟩, xn, xmin, xmax, xk⟩ = (xmin == 0 && xmax == 0)) := by simp [Hid, fieldsN, hz, hn]
        clear hz
        cases hm : (xmin == 0)
        all_goals
          rw [hm] at HF
          go_enter Try.func41, Try.ntmps41
          go_wp2_with fail
          go_ret
          exact ⟨by rw [HF.out]; rfl, (by repeat (first | exact Below.refl _ _ | assumption | refine Below.drew ?_ | refine Below.alloc ?_ (by first | (simp; done) | (simp; omega) | omega) _ | refine Below.setCell ?_ (by first | (simp; done) | (simp; omega) | omega) _))⟩
  · -- 4
    cases hz : ((⟨x0, x1, x2, x3⟩ : Cls) == Cls.zero) with
    | false =>
      rw [hz] at hq
      have HF : Hid (fieldsN ⟨4, ⟨x0, x1, x2, x3⟩, xn, xmin, xmax, xk⟩ = false) := by simp [Hid, fieldsN, hz]
      clear hz
      go_enter Try.func41, Try.ntmps41
      go_wp2_with fail
      go_ret
      exact ⟨by rw [HF.out]; rfl, (by repeat (first | exact Below.refl _ _ | assumption | refine Below.drew ?_ | refine Below.alloc ?_ (by first | (simp; done) | (simp; omega) | omega) _ | refine Below.setCell ?_ (by first | (simp; done) | (simp; omega) | omega) _))⟩
    | true =>
      rw [hz] at hq
      cases hn : (xn == 0) with
      | false =>
        have hn' : (xn != 0) = true := by rw [bne, hn]; rfl
        have HF : Hid (fieldsN ⟨4, ⟨x0, x1, x2, x3⟩, xn, xmin, xmax, xk⟩ = false) := by simp [Hid, fieldsN, hz, hn]
        clear hz
        go_enter Try.func41, Try.ntmps41
        go_wp2_with fail
        go_ret
        exact ⟨by rw [HF.out]; rfl, (by repeat (first | exact Below.refl _ _ | assumption | refine Below.drew ?_ | refine Below.alloc ?_ (by first | (simp; done) | (simp; omega) | omega) _ | refine Below.setCell ?_ (by first | (simp; done) | (simp; omega) | omega) _))⟩
      | true =>
        have hn' : (xn != 0) = false := by rw [bne, hn]; rfl
        have HF : Hid (fieldsN ⟨4, ⟨x0, x1, x2, x3⟩, xn, xmin, xmax, xk⟩ = (xmin == 0 && xmax == 0)) := by simp [Hid, fieldsN, hz, hn]
        clear hz
        cases hm : (xmin == 0)
        all_goals
          rw [hm] at HF
          go_enter Try.func41, Try.ntmps41
          go_wp2_with fail
          go_ret
          exact ⟨by rw [HF.out]; rfl, (by repeat (first | exact Below.refl _ _ | assumption | refine Below.drew ?_ | refine Below.alloc ?_ (by first | (simp; done) | (simp; omega) | omega) _ | refine Below.setCell ?_ (by first | (simp; done) | (simp; omega) | omega) _))⟩
  · -- 5
    cases hz : ((⟨x0, x1, x2, x3⟩ : Cls) == Cls.zero) with
    | false =>
      rw [hz] at hq
      have HF : Hid (fieldsN ⟨5, ⟨x0, x1, x2, x3⟩, xn, xmin, xmax, xk⟩ = false) := by simp [Hid, fieldsN, hz]
      clear hz
      go_enter Try.func41, Try.ntmps41
      go_wp2_with fail
      go_ret
      exact ⟨by rw [HF.out]; rfl, (by repeat (first | exact Below.refl _ _ | assumption | refine Below.drew ?_ | refine Below.alloc ?_ (by first | (simp; done) | (simp; omega) | omega) _ | refine Below.setCell ?_ (by first | (simp; done) | (simp; omega) | omega) _))⟩
    | true =>
      rw [hz] at hq
      cases hn : (xn == 0) with
      | false =>
        have hn' : (xn != 0) = true := by rw [bne, hn]; rfl
        have HF : Hid (fieldsN ⟨5, ⟨x0, x1, x2, x3⟩, xn, xmin, xmax, xk⟩ = false) := by simp [Hid, fieldsN, hz, hn]
        clear hz
        go_enter Try.func41, Try.ntmps41
        go_wp2_with fail
        go_ret
        exact ⟨by rw [HF.out]; rfl, (by repeat (first | exact Below.refl _ _ | assumption | refine Below.drew ?_ | refine Below.alloc ?_ (by first | (simp; done) | (simp; omega) | omega) _ | refine Below.setCell ?_ (by first | (simp; done) | (simp; omega) | omega) _))⟩
      | true =>
        have hn' : (xn != 0) = false := by rw [bne, hn]; rfl
        have HF : Hid (fieldsN ⟨5, ⟨x0, x1, x2, x3⟩, xn, xmin, xmax, xk⟩ = (xmin == 0 && xmax == 0)) := by simp [Hid, fieldsN, hz, hn]
        clear hz
        cases hm : (xmin == 0)
        all_goals
          rw [hm] at HF
          go_enter Try.func41, Try.ntmps41
          go_wp2_with fail
          go_ret
          exact ⟨by rw [HF.out]; rfl, (by repeat (first | exact Below.refl _ _ | assumption | refine Below.drew ?_ | refine Below.alloc ?_ (by first | (simp; done) | (simp; omega) | omega) _ | refine Below.setCell ?_ (by first | (simp; done) | (simp; omega) | omega) _))⟩
  · -- 6
    cases hz : ((⟨x0, x1, x2, x3⟩ : Cls) == Cls.zero) with
    | false =>
      rw [hz] at hq
      have HF : Hid (fieldsN ⟨6, ⟨x0, x1, x2, x3⟩, xn, xmin, xmax, xk⟩ = false) := by simp [Hid, fieldsN, hz]
      clear hz
      go_enter Try.func41, Try.ntmps41
      go_wp2_with fail
      go_ret
      exact ⟨by rw [HF.out]; rfl, (by repeat (first | exact Below.refl _ _ | assumption | refine Below.drew ?_ | refine Below.alloc ?_ (by first | (simp; done) | (simp; omega) | omega) _ | refine Below.setCell ?_ (by first | (simp; done) | (simp; omega) | omega) _))⟩
    | true =>
      rw [hz] at hq
      cases hn : (xn == 0) with
      | false =>
        have hn' : (xn != 0) = true := by rw [bne, hn]; rfl
        have HF : Hid (fieldsN ⟨6, ⟨x0, x1, x2, x3⟩, xn, xmin, xmax, xk⟩ = false) := by simp [Hid, fieldsN, hz, hn]
        clear hz
        go_enter Try.func41, Try.ntmps41
        go_wp2_with fail
        go_ret
        exact ⟨by rw [HF.out]; rfl, (by repeat (first | exact Below.refl _ _ | assumption | refine Below.drew ?_ | refine Below.alloc ?_ (by first | (simp; done) | (simp; omega) | omega) _ | refine Below.setCell ?_ (by first | (simp; done) | (simp; omega) | omega) _))⟩
      | true =>
        have hn' : (xn != 0) = false := by rw [bne, hn]; rfl
        have HF : Hid (fieldsN ⟨6, ⟨x0, x1, x2, x3⟩, xn, xmin, xmax, xk⟩ = (decide (0 ≤ xmin) && decide (xmin ≤ 255) && (xmax == -1 || decide (xmin ≤ xmax) && decide (xmax ≤ 255)))) := by simp [Hid, fieldsN, hz, hn]
        clear hz
        cases ha : decide (0 ≤ xmin)
        · rw [ha] at HF
          go_enter Try.func41, Try.ntmps41
          go_wp2_with fail
          go_ret
          exact ⟨by rw [HF.out]; rfl, (by repeat (first | exact Below.refl _ _ | assumption | refine Below.drew ?_ | refine Below.alloc ?_ (by first | (simp; done) | (simp; omega) | omega) _ | refine Below.setCell ?_ (by first | (simp; done) | (simp; omega) | omega) _))⟩
        · rw [ha] at HF
          cases hc : decide (xmin ≤ 255)
          · rw [hc] at HF
            go_enter Try.func41, Try.ntmps41
            go_wp2_with fail
            go_ret
            exact ⟨by rw [HF.out]; rfl, (by repeat (first | exact Below.refl _ _ | assumption | refine Below.drew ?_ | refine Below.alloc ?_ (by first | (simp; done) | (simp; omega) | omega) _ | refine Below.setCell ?_ (by first | (simp; done) | (simp; omega) | omega) _))⟩
          · rw [hc] at HF
            cases hd : (xmax == -1)
            · rw [hd] at HF
              cases he : decide (xmin ≤ xmax)
              all_goals
                rw [he] at HF
                go_enter Try.func41, Try.ntmps41
                go_wp2_with fail
                go_ret
                exact ⟨by rw [HF.out]; rfl, (by repeat (first | exact Below.refl _ _ | assumption | refine Below.drew ?_ | refine Below.alloc ?_ (by first | (simp; done) | (simp; omega) | omega) _ | refine Below.setCell ?_ (by first | (simp; done) | (simp; omega) | omega) _))⟩
            · rw [hd] at HF
              go_enter Try.func41, Try.ntmps41
              go_wp2_with fail
              go_ret
              exact ⟨by rw [HF.out]; rfl, (by repeat (first | exact Below.refl _ _ | assumption | refine Below.drew ?_ | refine Below.alloc ?_ (by first | (simp; done) | (simp; omega) | omega) _ | refine Below.setCell ?_ (by first | (simp; done) | (simp; omega) | omega) _))⟩
  · -- 7
    cases hz : ((⟨x0, x1, x2, x3⟩ : Cls) == Cls.zero) with
    | false =>
      rw [hz] at hq
      have HF : Hid (fieldsN ⟨7, ⟨x0, x1, x2, x3⟩, xn, xmin, xmax, xk⟩ = false) := by simp [Hid, fieldsN, hz]
      clear hz
      go_enter Try.func41, Try.ntmps41
      go_wp2_with fail
      go_ret
      exact ⟨by rw [HF.out]; rfl, (by repeat (first | exact Below.refl _ _ | assumption | refine Below.drew ?_ | refine Below.alloc ?_ (by first | (simp; done) | (simp; omega) | omega) _ | refine Below.setCell ?_ (by first | (simp; done) | (simp; omega) | omega) _))⟩
    | true =>
      rw [hz] at hq
      have HF : Hid (fieldsN ⟨7, ⟨x0, x1, x2, x3⟩, xn, xmin, xmax, xk⟩ = (xmin == 0 && xmax == 0)) := by simp [Hid, fieldsN, hz]
      clear hz
      cases hm : (xmin == 0)
      all_goals
        rw [hm] at HF
        go_enter Try.func41, Try.ntmps41
        go_wp2_with fail
        go_ret
        exact ⟨by rw [HF.out]; rfl, (by repeat (first | exact Below.refl _ _ | assumption | refine Below.drew ?_ | refine Below.alloc ?_ (by first | (simp; done) | (simp; omega) | omega) _ | refine Below.setCell ?_ (by first | (simp; done) | (simp; omega) | omega) _))⟩
  · -- 8
    cases hz : ((⟨x0, x1, x2, x3⟩ : Cls) == Cls.zero) with
    | false =>
      rw [hz] at hq
      have HF : Hid (fieldsN ⟨8, ⟨x0, x1, x2, x3⟩, xn, xmin, xmax, xk⟩ = false) := by simp [Hid, fieldsN, hz]
      clear hz
      go_enter Try.func41, Try.ntmps41
      go_wp2_with fail
      go_ret
      exact ⟨by rw [HF.out]; rfl, (by repeat (first | exact Below.refl _ _ | assumption | refine Below.drew ?_ | refine Below.alloc ?_ (by first | (simp; done) | (simp; omega) | omega) _ | refine Below.setCell ?_ (by first | (simp; done) | (simp; omega) | omega) _))⟩
    | true =>
      rw [hz] at hq
      have HF : Hid (fieldsN ⟨8, ⟨x0, x1, x2, x3⟩, xn, xmin, xmax, xk⟩ = (xmin == 0 && xmax == 0)) := by simp [Hid, fieldsN, hz]
      clear hz
      cases hm : (xmin == 0)
      all_goals
        rw [hm] at HF
        go_enter Try.func41, Try.ntmps41
        go_wp2_with fail
        go_ret
        exact ⟨by rw [HF.out]; rfl, (by repeat (first | exact Below.refl _ _ | assumption | refine Below.drew ?_ | refine Below.alloc ?_ (by first | (simp; done) | (simp; omega) | omega) _ | refine Below.setCell ?_ (by first | (simp; done) | (simp; omega) | omega) _))⟩
set_option maxRecDepth 100000 in
set_option maxHeartbeats 1600000 in
theorem kids_any (x : Nd) (w : World) (h1 : -128 ≤ x.op) (h2 : x.op ≤ 127) : Calls Try.prog 42 #[ndV x] w fun e w' => e = .returned (.bool (kidsNd x)) ∧ Below w.heap.size w w' := by
  obtain ⟨op, ⟨x0, x1, x2, x3⟩, xn, xmin, xmax, xk⟩ := x
  simp only at h1 h2
  by_cases h67 : op = 6 ∨ op = 7
  · have hk : kidsNd ⟨op, ⟨x0, x1, x2, x3⟩, xn, xmin, xmax, xk⟩ = (xk == 1) := by unfold kidsNd; rw [if_pos h67]
    rw [hk]
    clear hk
    rcases h67 with rfl | rfl
    all_goals
      clear h1 h2
      go_enter Try.func42, Try.ntmps42
      go_wp2_with fail
      go_ret
      exact ⟨rfl, (by repeat (first | exact Below.refl _ _ | assumption | refine Below.drew ?_ | refine Below.alloc ?_ (by first | (simp; done) | (simp; omega) | omega) _ | refine Below.setCell ?_ (by first | (simp; done) | (simp; omega) | omega) _))⟩
  · have h6 : (op == 6) = false := by simp; omega
    have h7 : (op == 7) = false := by simp; omega
    by_cases h5 : op = 5
    · have hk : kidsNd ⟨op, ⟨x0, x1, x2, x3⟩, xn, xmin, xmax, xk⟩ = decide (2 ≤ xk) := by unfold kidsNd; rw [if_neg h67, if_pos h5]
      rw [hk]
      subst h5
      clear hk h67 h1 h2 h6 h7
      go_enter Try.func42, Try.ntmps42
      go_wp2_with fail
      go_ret
      exact ⟨rfl, (by repeat (first | exact Below.refl _ _ | assumption | refine Below.drew ?_ | refine Below.alloc ?_ (by first | (simp; done) | (simp; omega) | omega) _ | refine Below.setCell ?_ (by first | (simp; done) | (simp; omega) | omega) _))⟩
    · by_cases h4 : op = 4
      · have hk : kidsNd ⟨op, ⟨x0, x1, x2, x3⟩, xn, xmin, xmax, xk⟩ = (xk == 0 || decide (2 ≤ xk)) := by unfold kidsNd; rw [if_neg h67, if_neg h5, if_pos h4]
        rw [hk]
        subst h4
        clear hk h67 h1 h2 h5 h6 h7
        cases hb : (xk == 0)
        all_goals
          go_enter Try.func42, Try.ntmps42
          go_wp2_with fail
          go_ret
          exact ⟨rfl, (by repeat (first | exact Below.refl _ _ | assumption | refine Below.drew ?_ | refine Below.alloc ?_ (by first | (simp; done) | (simp; omega) | omega) _ | refine Below.setCell ?_ (by first | (simp; done) | (simp; omega) | omega) _))⟩
      · have hk : kidsNd ⟨op, ⟨x0, x1, x2, x3⟩, xn, xmin, xmax, xk⟩ = (xk == 0) := by unfold kidsNd; rw [if_neg h67, if_neg h5, if_neg h4]
        have h5' : (op == 5) = false := by simpa using h5
        have h4' : (op == 4) = false := by simpa using h4
        rw [hk]
        clear hk h67 h5 h4
        go_enter Try.func42, Try.ntmps42
        go_wp2_with fail
        go_ret
        exact ⟨rfl, (by repeat (first | exact Below.refl _ _ | assumption | refine Below.drew ?_ | refine Below.alloc ?_ (by first | (simp; done) | (simp; omega) | omega) _ | refine Below.setCell ?_ (by first | (simp; done) | (simp; omega) | omega) _))⟩
end Go.Proofs.Ytbdjcmhfcdamiaa
