/- Contracts of what the statements use on lists of nodes: num, WideNodes, SpareNodes. -/
import Derived.Test.YtbdjcmhfcdamiaaUf
namespace Go.Proofs.Ytbdjcmhfcdamiaa
open Go.RowKit

theorem num_call (a b : Int) {w : World} (ha : 0 ≤ a) (ha2 : a ≤ 100) (hb : 0 ≤ b) (hb2 : b ≤ 4294967296) :
    Calls Try.prog 32 #[.int .i64 a, .int .i64 b] w fun e w' => e = .returned (.int .i64 (1048576 * a + b + 1)) ∧ w = w' := by
  go_enter Try.func32, Try.ntmps32
  go_wp2_with fail
  go_ret
  exact ⟨rfl, rfl⟩
/-- The mark behind a list. -/
def spareN (i : Nat) : Nd := ⟨0, Cls.zero, 1048576 * 9 + (i : Int) + 1, -7, 0, 0⟩
def spareL (n : Nat) : List Nd := (List.range 64).map fun k => spareN (n + k)
/-- A node stored into a row. -/
def put9 (w : World) (g i : Nat) (x : Nd) : World := ((((((((w.setCell ⟨g, i * 9, none⟩ (.int .i8 x.op)).setCell ⟨g, i * 9 + 1, none⟩ (.int .u64 x.set.w0.toNat)).setCell ⟨g, i * 9 + 2, none⟩ (.int .u64 x.set.w1.toNat)).setCell ⟨g, i * 9 + 3, none⟩ (.int .u64 x.set.w2.toNat)).setCell ⟨g, i * 9 + 4, none⟩ (.int .u64 x.set.w3.toNat)).setCell ⟨g, i * 9 + 5, none⟩ (.int .i64 x.n)).setCell ⟨g, i * 9 + 6, none⟩ (.int .i64 x.min)).setCell ⟨g, i * 9 + 7, none⟩ (.int .i64 x.max)).setCell ⟨g, i * 9 + 8, none⟩ (.int .i64 x.kids)
theorem made_zero (n : Nat) : (madeCells #[Value.int .i8 0, .int .u64 0, .int .u64 0, .int .u64 0, .int .u64 0, .int .i64 0, .int .i64 0, .int .i64 0, .int .i64 0] (n * 9)).toList = ndsC (List.replicate n Nd.zero) := by
  refine List.ext_getElem? fun j => ?_
  by_cases hj : j < n * 9
  · have h1 := ndsC_at (List.replicate n Nd.zero) (j / 9) (j % 9) (by rw [List.length_replicate]; omega) (by omega)
    rw [show j / 9 * 9 + j % 9 = j by omega] at h1
    rw [h1]
    have hg : (List.replicate n Nd.zero).getD (j / 9) Nd.zero = Nd.zero := by
      rw [List.getD_eq_getElem?_getD, List.getElem?_replicate]
      split <;> rfl
    rw [hg]
    have h9 : j % 9 < 9 := by omega
    simp only [madeCells, Array.toList_map, Array.toList_range, List.getElem?_map, List.getElem?_range hj, Option.map_some]
    generalize j % 9 = k at h9
    have : k = 0 ∨ k = 1 ∨ k = 2 ∨ k = 3 ∨ k = 4 ∨ k = 5 ∨ k = 6 ∨ k = 7 ∨ k = 8 := by omega
    rcases this with rfl | rfl | rfl | rfl | rfl | rfl | rfl | rfl | rfl <;> rfl
  · rw [List.getElem?_eq_none (by rw [Array.length_toList, size_madeCells]; omega), List.getElem?_eq_none (by rw [ndsC_length, List.length_replicate]; omega)]
/-- The nodes written so far. -/
def soFar (full : List Nd) (n d : Nat) : List Nd := full.take d ++ List.replicate (n - d) Nd.zero
theorem soFar_length {full : List Nd} {n d : Nat} (hf : full.length = n) (hd : d ≤ n) : (soFar full n d).length = n := by
  rw [soFar, List.length_append, List.length_take, List.length_replicate]; omega
theorem soFar_set {full : List Nd} {n d : Nat} {x : Nd} (hf : full.length = n) (hd : d < n) (hx : full[d]? = some x) : (soFar full n d).set d x = soFar full n (d + 1) := by
  unfold soFar
  have hl : (full.take d).length = d := by rw [List.length_take]; omega
  rw [List.set_append_right _ _ (by omega), hl, Nat.sub_self, List.take_add_one, hx, show n - d = (n - (d + 1)) + 1 by omega, List.replicate_succ, List.set_cons_zero]
  simp
theorem soFar_getD {full : List Nd} {n d : Nat} (hf : full.length = n) (hd : d < n) : (soFar full n d).getD d Nd.zero = Nd.zero := by
  unfold soFar
  have hl : (full.take d).length = d := by rw [List.length_take]; omega
  rw [List.getD_eq_getElem?_getD, List.getElem?_append_right (by omega), List.getElem?_replicate]
  split <;> rfl
theorem ndsC_set (l : List Nd) (i : Nat) (x : Nd) (hi : i < l.length) : ndsC (l.set i x) = ((((((((((ndsC l).set (i * 9) (.int .i8 x.op)).set (i * 9 + 1) (.int .u64 x.set.w0.toNat)).set (i * 9 + 2) (.int .u64 x.set.w1.toNat)).set (i * 9 + 3) (.int .u64 x.set.w2.toNat)).set (i * 9 + 4) (.int .u64 x.set.w3.toNat)).set (i * 9 + 5) (.int .i64 x.n)).set (i * 9 + 6) (.int .i64 x.min)).set (i * 9 + 7) (.int .i64 x.max)).set (i * 9 + 8) (.int .i64 x.kids)) := by
  refine List.ext_getElem? fun j => ?_
  simp only [List.getElem?_set, List.length_set, ndsC_length]
  by_cases hj : j < l.length * 9
  · have h1 := ndsC_at (l.set i x) (j / 9) (j % 9) (by rw [List.length_set]; omega) (by omega)
    rw [show j / 9 * 9 + j % 9 = j by omega] at h1
    rw [h1]
    have h2 := ndsC_at l (j / 9) (j % 9) (by omega) (by omega)
    rw [show j / 9 * 9 + j % 9 = j by omega] at h2
    by_cases hji : j / 9 = i
    · have hg : (l.set i x).getD (j / 9) Nd.zero = x := by rw [hji, List.getD_eq_getElem?_getD, List.getElem?_set]; simp [hi]
      rw [hg]
      have hj2 : j = i * 9 + j % 9 := by omega
      have h9 : j % 9 < 9 := by omega
      generalize j % 9 = k at *
      subst hj2
      have : k = 0 ∨ k = 1 ∨ k = 2 ∨ k = 3 ∨ k = 4 ∨ k = 5 ∨ k = 6 ∨ k = 7 ∨ k = 8 := by omega
      rcases this with rfl | rfl | rfl | rfl | rfl | rfl | rfl | rfl | rfl <;> simp [ndCells] <;> omega
    · have hg : (l.set i x).getD (j / 9) Nd.zero = l.getD (j / 9) Nd.zero := by rw [List.getD_eq_getElem?_getD, List.getD_eq_getElem?_getD, List.getElem?_set, if_neg (fun h => hji h.symm)]
      rw [hg, ← h2]
      repeat rw [if_neg (by omega)]
  · rw [List.getElem?_eq_none (by rw [ndsC_length, List.length_set]; omega), List.getElem?_eq_none (by rw [ndsC_length]; omega)]
    repeat' (split)
    all_goals first | rfl | omega
theorem Nds.put {w : World} {base g n cap i : Nat} {l : List Nd} (h : Nds w base (.slice (some ⟨g, 0, none⟩) n cap) l) (hn : l.length = n) (hi : i < n) (x : Nd) : Nds (put9 w g i x) base (.slice (some ⟨g, 0, none⟩) n cap) (l.set i x) := by
  unfold Nds at h ⊢
  rw [List.length_set, ndsC_set l i x (by omega), hn]
  rw [hn] at h
  unfold put9
  have s := fun {w : World} {xs : List Value} (h : w.ownsRow base 33 9 (.slice (some ⟨g, 0, none⟩) n cap) n xs) (j : Nat) (u : Value) => (World.ownsRow.stored h j u).1
  exact s (s (s (s (s (s (s (s (s h _ _) _ _) _ _) _ _) _ _) _ _) _ _) _ _) _ _
theorem put9_below {w : World} {g k : Nat} (h : k ≤ g) (i : Nat) (x : Nd) : Below k w (put9 w g i x) :=
  ((((((((((Below.refl k w).setCell (p := ⟨g, i * 9, none⟩) h _).setCell (p := ⟨g, i * 9 + 1, none⟩) h _).setCell (p := ⟨g, i * 9 + 2, none⟩) h _).setCell (p := ⟨g, i * 9 + 3, none⟩) h _).setCell (p := ⟨g, i * 9 + 4, none⟩) h _).setCell (p := ⟨g, i * 9 + 5, none⟩) h _).setCell (p := ⟨g, i * 9 + 6, none⟩) h _).setCell (p := ⟨g, i * 9 + 7, none⟩) h _).setCell (p := ⟨g, i * 9 + 8, none⟩) h _)
/-- The nine cells of a node in a row. -/
theorem Nds.nine {w : World} {base g n cap i : Nat} {l : List Nd} (h : Nds w base (.slice (some ⟨g, 0, none⟩) n cap) l) (hn : l.length = n) (hi : i < n) {x : Nd} (hx : l.getD i Nd.zero = x) :
    w.cell? ⟨g, i * 9, none⟩ = some (.int .i8 x.op) ∧ w.cell? ⟨g, i * 9 + 1, none⟩ = some (.int .u64 x.set.w0.toNat) ∧ w.cell? ⟨g, i * 9 + 2, none⟩ = some (.int .u64 x.set.w1.toNat) ∧ w.cell? ⟨g, i * 9 + 3, none⟩ = some (.int .u64 x.set.w2.toNat) ∧ w.cell? ⟨g, i * 9 + 4, none⟩ = some (.int .u64 x.set.w3.toNat) ∧
    w.cell? ⟨g, i * 9 + 5, none⟩ = some (.int .i64 x.n) ∧ w.cell? ⟨g, i * 9 + 6, none⟩ = some (.int .i64 x.min) ∧ w.cell? ⟨g, i * 9 + 7, none⟩ = some (.int .i64 x.max) ∧ w.cell? ⟨g, i * 9 + 8, none⟩ = some (.int .i64 x.kids) ∧ ∀ o, w.frozen? ⟨g, o, none⟩ = false := by
  unfold Nds at h
  rw [hn] at h
  have hc : ∀ j, j < 9 → w.cell? ⟨g, i * 9 + j, none⟩ = (ndCells x)[j]? := fun j hj => by
    rw [World.ownsRow.cellAt h _ (by omega), ndsC_at l i j (by omega) hj, hx]
  exact ⟨hc 0 (by decide), hc 1 (by decide), hc 2 (by decide), hc 3 (by decide), hc 4 (by decide), hc 5 (by decide), hc 6 (by decide), hc 7 (by decide), hc 8 (by decide), fun o => World.ownsRow.frozenAt h o⟩
set_option maxRecDepth 100000 in
set_option maxHeartbeats 1600000 in
theorem wideNodes_call {re : List Nd} {oa : Option Addr} {cap : Nat} {w : World} (hv : NdW w oa cap re) (hl : re.length ≤ 2147483647) :
    Calls Try.prog 12 #[.slice oa re.length cap] w fun e w' => (∃ g, e = .returned (.slice (some ⟨g, 0, none⟩) re.length (re.length + 64)) ∧ Nds w' w.heap.size (.slice (some ⟨g, 0, none⟩) (re.length + 64) (re.length + 64)) (re ++ spareL re.length)) ∧ Below w.heap.size w w' := by
  have HV := Lib.hid hv
  have HL := Lib.hid hl
  have hl1 : (re.length : Int) ≤ 2147483647 := by omega
  clear hv hl
  obtain ⟨i0, hi, hz0, hz1, hz2⟩ := info_parts (elNd).hi
  go_enter Try.func12, Try.ntmps12
  go_wp2_with (at_make; refine wpList_make_full _ rfl _ _ 22 rfl w.heap.size 33 i0 _ 9 Try.underlying22 hi hz0 hz1 .i64 .i64 ((re.length : Int) + 64) ((re.length : Int) + 64) (re.length + 64) rfl rfl (by omega) (by omega) (by rw [hz2]; have := HL.out; omega) (by unfold maxLen; have := HL.out; omega) (Nat.le_refl _) ?_)
  intro w1 hown hgr
  have hN1 : Nds w1 w.heap.size (.slice (some ⟨w.heap.size, 0, none⟩) (re.length + 64) (re.length + 64)) (soFar (re ++ spareL re.length) (re.length + 64) 0) := by
    unfold Nds soFar
    rw [List.take_zero, List.nil_append, Nat.sub_zero, List.length_replicate, ← made_zero]
    exact hown
  have HN1 := Lib.hid hN1
  have HB1 := Lib.hid ((Below.refl w.heap.size w).grown hgr (Nat.le_refl _) (fun k hk => by cases hk))
  have HF := Lib.hid (show (re ++ spareL re.length).length = re.length + 64 by rw [List.length_append]; simp [spareL])
  have hg1 : w.heap.size < w1.heap.size := (hN1.lt _ rfl).2
  clear hown hgr hN1 hi hz0 hz1 hz2
  go_wp2_with fail
  go_loopg [4] (re.length + 64) (fun n iv wr => ∃ d : Nat, iv = .int .i64 (d : Nat) ∧ n = re.length + 64 - d ∧ d ≤ re.length + 64 ∧ Nds wr w.heap.size (.slice (some ⟨w.heap.size, 0, none⟩) (re.length + 64) (re.length + 64)) (soFar (re ++ spareL re.length) (re.length + 64) d) ∧ Below w.heap.size w wr)
  case atStart => exact ⟨0, rfl, by omega, by omega, HN1.out, HB1.out⟩
  case round =>
    obtain ⟨d, rfl, hg2, hd, hn, hb⟩ := hrel
    have HG := Lib.hid hg2
    have HNN := Lib.hid hn
    have HB := Lib.hid hb
    have hgw : w.heap.size < wr.heap.size := (hn.lt _ rfl).2
    have hsl := soFar_length HF.out hd
    by_cases hlt : d < re.length + 64
    · have hlt' : (d : Int) < (re.length : Int) + 64 := by omega
      obtain ⟨z0, z1, z2, z3, z4, z5, z6, z7, z8, zf⟩ := hn.nine hsl hlt (soFar_getD HF.out hlt)
      have HSL := Lib.hid hsl
      clear hg2 hn hb hsl
      by_cases hin : d < re.length
      · have hin' : (d : Int) < (re.length : Int) := by omega
        obtain ⟨x, hx⟩ : ∃ x, re[d]? = some x := ⟨_, List.getElem?_eq_getElem hin⟩
        have HX := Lib.hid (show (re ++ spareL re.length)[d]? = some x by rw [List.getElem?_append_left hin]; exact hx)
        obtain ⟨nb, no, hoa, hnd⟩ := ((HV.out.below HB.out).toV (by have := HL.out; omega)).at_ (by omega)
        obtain ⟨n0, n1, n2, n3, n4, n5, n6, n7, n8⟩ := hnd.cells hx
        have nbl := hnd.lt
        subst hoa
        clear hnd hx
        go_wp2_with fail
        go_roundg (re.length + 64 - (d + 1))
        case measure => have := HG.out; omega
        case rel => exact ⟨d + 1, by go_num, rfl, by omega, by rw [← soFar_set HF.out hlt HX.out]; exact Nds.put HNN.out HSL.out hlt x, HB.out.trans (put9_below (Nat.le_refl _) d x)⟩
      · have hin' : ¬ (d : Int) < (re.length : Int) := by omega
        have HX := Lib.hid (show (re ++ spareL re.length)[d]? = some (spareN d) by
          rw [List.getElem?_append_right (by omega), spareL, List.getElem?_map, List.getElem?_range (by omega), Option.map_some, show re.length + (d - re.length) = d by omega])
        go_wp2_with fail
        refine (num_call 9 (d : Int) (by decide) (by decide) (by omega) (by omega)).mono ?_; rintro e w3 ⟨rfl, rfl⟩
        go_wp2_with fail
        go_roundg (re.length + 64 - (d + 1))
        case measure => have := HG.out; omega
        case rel => exact ⟨d + 1, by go_num, rfl, by omega, by rw [← soFar_set HF.out hlt HX.out]; exact Nds.put HNN.out HSL.out hlt (spareN d), HB.out.trans (put9_below (Nat.le_refl _) d (spareN d))⟩
    · have hlt' : ¬ (d : Int) < (re.length : Int) + 64 := by omega
      have hde : d = re.length + 64 := by omega
      subst hde
      have HFin := Lib.hid (show Nds wr w.heap.size (.slice (some ⟨w.heap.size, 0, none⟩) (re.length + 64) (re.length + 64)) (re ++ spareL re.length) by
        have h := HNN.out
        unfold soFar at h
        rw [List.take_of_length_le (by have := HF.out; omega), Nat.sub_self, List.replicate_zero, List.append_nil] at h
        exact h)
      clear hg2 hn hb hsl
      go_wp2_with fail
      go_ret
      exact ⟨⟨w.heap.size, rfl, HFin.out⟩, HB.out⟩
end Go.Proofs.Ytbdjcmhfcdamiaa
