/- Contracts of what the statements use on lists of nodes: SpareNodes, CopyNodes; nodes as they are read. -/
import Derived.Test.YtbdjcmhfcdamiaaUg
namespace Go.Proofs.Ytbdjcmhfcdamiaa
open Go.RowKit Go.ChangeShapes Go.WideShapes Go.Deep

theorem eql_nd_same (x : Nd) (w : World) : (binOp .eql 33 (ndV x) (ndV x)).run Try.prog w = .ok (.bool true) w := by
  obtain ⟨op, ⟨x0, x1, x2, x3⟩, xn, xmin, xmax, xk⟩ := x
  rw [ndV, run_eql_struct]
  have hcl := cls_eq x0.toNat x1.toNat x2.toNat x3.toNat x0.toNat x1.toNat x2.toNat x3.toNat w
  simp [go_sem, hcl]
set_option maxRecDepth 100000 in
set_option maxHeartbeats 1600000 in
theorem spareNodes_call {l : List Nd} {n g base : Nat} {w : World} (hn : Nds w base (.slice (some ⟨g, 0, none⟩) (n + 64) (n + 64)) (l ++ spareL n)) (hl : l.length = n) (hb : n ≤ 2147483647) :
    Calls Try.prog 22 #[.slice (some ⟨g, 0, none⟩) n (n + 64)] w fun e w' => e = .returned (.bool true) ∧ Below w.heap.size w w' := by
  have HN := Lib.hid hn
  have HL := Lib.hid hl
  have hgw : g < w.heap.size := (hn.lt _ rfl).2
  clear hn hl
  go_enter Try.func22, Try.ntmps22
  go_wp2_with fail
  go_loopg [4] 64 (fun m iv wr => ∃ d : Nat, iv = .int .i64 ((n + d : Nat) : Int) ∧ m = 64 - d ∧ d ≤ 64 ∧ Below w.heap.size w wr)
  case atStart => exact ⟨0, rfl, by omega, by omega, Below.refl _ _⟩
  case round =>
    obtain ⟨d, rfl, hg, hd, hbe⟩ := hrel
    have HG := Lib.hid hg
    have HB := Lib.hid hbe
    have HNR := Lib.hid (HN.out.below hbe)
    have hgr : g < wr.heap.size := Nat.lt_of_lt_of_le hgw hbe.size
    clear hg hbe
    obtain ⟨k, hk⟩ : ∃ k, k = n + d := ⟨_, rfl⟩
    rw [← hk]
    by_cases hlt : d < 64
    · have hlt' : (k : Int) < (n : Int) + 64 := by omega
      obtain ⟨z0, z1, z2, z3, z4, z5, z6, z7, z8, _⟩ := HNR.out.nine (by rw [List.length_append, HL.out]; simp [spareL]) (show k < n + 64 by omega) (show (l ++ spareL n).getD k Nd.zero = spareN k by
        rw [List.getD_eq_getElem?_getD, List.getElem?_append_right (by have := HL.out; omega), spareL, List.getElem?_map, List.getElem?_range (by have := HL.out; omega), Option.map_some, HL.out, show n + (k - n) = k by omega]
        rfl)
      have z5' : wr.cell? ⟨g, k * 9 + 5, none⟩ = some (.int .i64 (9437184 + (k : Int) + 1)) := z5
      have hq := eql_nd_same ⟨0, Cls.zero, 9437184 + (k : Int) + 1, -7, 0, 0⟩
      simp only [spareN, Cls.zero] at z0 z1 z2 z3 z4 z6 z7 z8
      have hq' : ∀ w, (binOp .eql 33 (.agg #[.int .i8 0, .int .u64 0, .int .u64 0, .int .u64 0, .int .u64 0, .int .i64 (9437184 + (k : Int) + 1), .int .i64 (-7), .int .i64 0, .int .i64 0]) (.agg #[.int .i8 0, .int .u64 0, .int .u64 0, .int .u64 0, .int .u64 0, .int .i64 (9437184 + (k : Int) + 1), .int .i64 (-7), .int .i64 0, .int .i64 0])).run Try.prog w = .ok (.bool true) w := hq
      have HKK := Lib.hid hk
      have hkb : (k : Int) ≤ 2147483711 := by omega
      clear hq z5 hk
      go_wp2_with fail
      refine wp_region_segs (X := none) 9 [([0, 1, 2, 3, 4], 5)] [6, 7, 8] (by kernel_rfl) (by kernel_rfl) rfl (fun _ _ _ _ _ h => h) ?_
      simp only [wpSegs, pickSegs_nil, pickSegs_cons, pickOps_nil, pickOps_cons, List.getD_cons_zero, List.getD_cons_succ, List.drop_succ_cons, List.drop_nil]
      repeat (go_big_quiet_step (fail))
      refine wpQuiet_nil ?_
      go_wp2_with fail
      refine (num_call 9 (k : Int) (by decide) (by decide) (by omega) (by omega)).mono ?_; rintro e w3 ⟨rfl, rfl⟩
      go_wp2_with fail
      refine ⟨Keeps.refl _, ?_⟩
      repeat (go_big_quiet_step (fail))
      refine wpQuiet_nil ?_
      go_wp2_with fail
      go_roundg (64 - (d + 1))
      case measure => have := HG.out; omega
      case rel => exact ⟨d + 1, by have := HKK.out; rw [show n + (d + 1) = k + 1 by omega]; go_num, rfl, by omega, HB.out.drew⟩
    · have hlt' : ¬ (k : Int) < (n : Int) + 64 := by omega
      have HKK := Lib.hid hk
      clear hk
      go_wp2_with fail
      go_ret
      exact ⟨rfl, HB.out⟩
/-! ### Copies of long lists -/
set_option maxRecDepth 100000 in
set_option maxHeartbeats 1600000 in
theorem copyNodesS_call {re : List Nd} {oa : Option Addr} {cap : Nat} {w : World} (hs : Src w (.slice oa re.length cap) re.length (ndsC re)) (hl : re.length ≤ 2147483647) :
    Calls Try.prog 23 #[.slice oa re.length cap] w fun e w' => (∃ v, e = .returned v ∧ Nds w' w.heap.size v re) ∧ Below w.heap.size w w' := by
  have HV := Lib.hid hs
  clear hs
  go_enter Try.func23, Try.ntmps23
  go_wp2_with (at_builtin; refine wpList_app elNd rfl _ _ rfl w.heap.size rfl (Nds.nil w w.heap.size) rfl HV.out (ndsC_length re) (ndsC_one re) (by simp only [List.length_nil]; unfold maxLen; omega) (by simp only [List.length_nil]; omega) (Nat.le_refl _) ?_)
  intro v1 w2 hm2 hgr2 hblk2
  have HM := Lib.hid (show Nds w2 w.heap.size v1 re by unfold Nds; simpa [ndsC] using hm2)
  have HB := Lib.hid ((Below.refl w.heap.size w).grown hgr2 (Nat.le_refl _) (fun k hk => by cases hk))
  clear hm2 hgr2 hblk2
  go_wp2_with fail
  go_ret
  exact ⟨⟨_, rfl, HM.out⟩, HB.out⟩

/-! ### The first nodes of a row -/
theorem Nds.pre {w : World} {base g n cap : Nat} {l r : List Nd} (h : Nds w base (.slice (some ⟨g, 0, none⟩) n cap) (l ++ r)) (hn : (l ++ r).length = n) (hl : l.length ≤ 4294967296) (hk : ∀ x ∈ l, x.kids ≤ 9223372036854775807) : NdAt w g 0 l :=
  ⟨(h.lt g rfl).2, hl, fun i hi j => by
    by_cases hj : j < 9
    · left
      have hlen : (l ++ r).length = l.length + r.length := List.length_append
      unfold Nds at h
      rw [hn] at h
      rw [Nat.zero_add, World.ownsRow.cellAt h _ (by omega), ndsC_at (l ++ r) i j (by omega) hj]
      congr 2
      rw [List.getD_eq_getElem?_getD, List.getD_eq_getElem?_getD, List.getElem?_append_left hi]
    · right; omega, hk⟩
theorem Nds.preV {w : World} {base g n cap : Nat} {l r : List Nd} (h : Nds w base (.slice (some ⟨g, 0, none⟩) n cap) (l ++ r)) (hn : (l ++ r).length = n) (hl : l.length ≤ 4294967296) (hk : ∀ x ∈ l, x.kids ≤ 9223372036854775807) : NdV w (some ⟨g, 0, none⟩) l :=
  ⟨hl, fun _ => ⟨g, 0, rfl, h.pre hn hl hk⟩⟩
theorem NdV.srcAt {w : World} {a : Addr} {cap : Nat} {re : List Nd} (h : NdV w (some a) re) : Src w (.slice (some a) re.length cap) re.length (ndsC re) := by
  by_cases hp : 0 < re.length
  · exact h.src hp
  · have : re = [] := List.eq_nil_of_length_eq_zero (by omega)
    subst this
    exact .inr ⟨a, cap, rfl, fun j u hu => by simp [ndsC] at hu⟩

/-! ### Readings -/
section
variable {H : Type} {enc : TypeId × Value → H} {w : World} {spare : Nat → Bool} {held : Bool}
theorem list_four {α : Type} {l : List α} (h : l.length = 4) : ∃ a b c d, l = [a, b, c, d] := by
  match l, h with
  | [a, b, c, d], _ => exact ⟨a, b, c, d, rfl⟩
theorem list_six {α : Type} {l : List α} (h : l.length = 6) : ∃ a b c d e f, l = [a, b, c, d, e, f] := by
  match l, h with
  | [a, b, c, d, e, f], _ => exact ⟨a, b, c, d, e, f, rfl⟩
theorem list_nine {α : Type} {l : List α} (h : l.length = 9) : ∃ a b c d e f g i j, l = [a, b, c, d, e, f, g, i, j] := by
  match l, h with
  | [a, b, c, d, e, f, g, i, j], _ => exact ⟨a, b, c, d, e, f, g, i, j, rfl⟩
/-- A node's numbers fit. -/
def NdFit (x : Nd) : Prop := (-128 ≤ x.op ∧ x.op ≤ 127) ∧ (-9223372036854775808 ≤ x.n ∧ x.n ≤ 9223372036854775807) ∧ (-9223372036854775808 ≤ x.min ∧ x.min ≤ 9223372036854775807) ∧ (-9223372036854775808 ≤ x.max ∧ x.max ≤ 9223372036854775807) ∧ (-9223372036854775808 ≤ x.kids ∧ x.kids ≤ 9223372036854775807)
theorem u64_bv {a : Int} (h : 0 ≤ a ∧ a ≤ 18446744073709551615) : ∃ b : BitVec 64, a = ((b.toNat : Nat) : Int) := ⟨BitVec.ofNat 64 a.toNat, by
  rw [BitVec.toNat_ofNat, Nat.mod_eq_of_lt (by omega)]
  omega⟩
theorem open_word {n : Nat} {v : Value} {x : DataW H × List MemPlace} (h : DataW.trod enc Try.prog w 0 spare held n 29 [v] = some x) : ∃ b : BitVec 64, v = .int .u64 ((b.toNat : Nat) : Int) := by
  obtain ⟨a, ha, _, wa⟩ := DataW.trod_int Try.underlying29 h
  obtain ⟨b, hb⟩ := u64_bv (bounds_u64 wa)
  simp only [List.cons.injEq, and_true] at ha
  exact ⟨b, by rw [ha, hb]⟩
theorem afld {c m n e : Nat} {cs : List Value} {xs : List (DataW H × List MemPlace)} (hf : ∀ i, i < n → DataW.trod enc Try.prog w 0 spare held m e ((cs.drop (i * Try.prog.cellsOf e)).take (Try.prog.cellsOf e)) = xs[i]?) (hk : Try.prog.cellsOf e = c) {i : Nat} (hi : i < n) : DataW.trod enc Try.prog w 0 spare held m e ((cs.drop (i * c)).take c) = xs[i]? := by
  subst hk
  exact hf i hi
theorem open_class {n : Nat} {cs : List Value} {x : DataW H × List MemPlace} (hl : cs.length = 4) (h : DataW.trod enc Try.prog w 0 spare held n 31 cs = some x) : ∃ c : Cls, cs = [.int .u64 c.w0.toNat, .int .u64 c.w1.toNat, .int .u64 c.w2.toNat, .int .u64 c.w3.toNat] := by
  obtain ⟨c0, c1, c2, c3, rfl⟩ := list_four hl
  obtain ⟨xs, m, _, _, _, hx, hf⟩ := DataW.trod_array Try.underlying31 h
  obtain ⟨y0, y1, y2, y3, rfl⟩ := list_four hx
  have e1 : Try.prog.cellsOf 29 = 1 := by kernel_rfl
  have h0 := afld hf e1 (i := 0) (by decide)
  have h1 := afld hf e1 (i := 1) (by decide)
  have h2 := afld hf e1 (i := 2) (by decide)
  have h3 := afld hf e1 (i := 3) (by decide)
  obtain ⟨b0, rfl⟩ := open_word h0
  obtain ⟨b1, rfl⟩ := open_word h1
  obtain ⟨b2, rfl⟩ := open_word h2
  obtain ⟨b3, rfl⟩ := open_word h3
  exact ⟨⟨b0, b1, b2, b3⟩, rfl⟩
theorem open_node {n : Nat} {cs : List Value} {x : DataW H × List MemPlace} (h : DataW.trod enc Try.prog w 0 spare held n 33 cs = some x) : ∃ m : Nd, NdFit m ∧ cs = (ndCells m).toList := by
  obtain ⟨xs, n', _, _, hl, hx, hf⟩ := DataW.trod_struct Try.underlying33 h
  have hl2 : cs.length = 9 := hl.trans (by kernel_rfl)
  obtain ⟨c0, c1, c2, c3, c4, c5, c6, c7, c8, rfl⟩ := list_nine hl2
  obtain ⟨x0, x1, x2, x3, x4, x5, rfl⟩ := list_six hx
  have h0 := fld hf (i := 0) (ty := 28) (off := 0) (k := 1) rfl rfl rfl (by kernel_rfl)
  have h1 := fld hf (i := 1) (ty := 31) (off := 1) (k := 4) rfl rfl rfl (by kernel_rfl)
  have h2 := fld hf (i := 2) (ty := 3) (off := 5) (k := 1) rfl rfl rfl (by kernel_rfl)
  have h3 := fld hf (i := 3) (ty := 3) (off := 6) (k := 1) rfl rfl rfl (by kernel_rfl)
  have h4 := fld hf (i := 4) (ty := 3) (off := 7) (k := 1) rfl rfl rfl (by kernel_rfl)
  have h5 := fld hf (i := 5) (ty := 3) (off := 8) (k := 1) rfl rfl rfl (by kernel_rfl)
  simp only [List.drop_zero, List.take_succ_cons, List.take_zero, List.drop_succ_cons, List.getElem?_cons_zero, List.getElem?_cons_succ] at h0 h1 h2 h3 h4 h5
  obtain ⟨a0, e0, _, w0⟩ := DataW.trod_int Try.underlying28 h0
  obtain ⟨k, e1⟩ := open_class rfl h1
  obtain ⟨a2, e2, _, w2⟩ := DataW.trod_int Try.underlying3 h2
  obtain ⟨a3, e3, _, w3⟩ := DataW.trod_int Try.underlying3 h3
  obtain ⟨a4, e4, _, w4⟩ := DataW.trod_int Try.underlying3 h4
  obtain ⟨a5, e5, _, w5⟩ := DataW.trod_int Try.underlying3 h5
  simp only [List.cons.injEq, and_true] at e0 e1 e2 e3 e4 e5
  obtain ⟨f1, f2, f3, f4⟩ := e1
  subst e0 e2 e3 e4 e5 f1 f2 f3 f4
  exact ⟨⟨a0, k, a2, a3, a4, a5⟩, ⟨bounds_i8 w0, bounds_i64 w2, bounds_i64 w3, bounds_i64 w4, bounds_i64 w5⟩, rfl⟩
theorem read_nodes {t : TypeId} {v : Value} {d : DataW H} {p : List MemPlace} (ht : Try.prog.underlying t = some (.slice 33)) (h : DataW.Trod enc Try.prog w 0 spare held t v d p) {oa : Option Addr} {len cap : Nat} (hv : v = .slice oa len cap) :
    ∃ L : List Nd, L.length = len ∧ NdW w oa cap L ∧ (L.length = 0 ∨ ∃ el sp, d = .slice el sp ∧ el.length = L.length) := by
  subst hv
  obtain ⟨fuel, hf⟩ := h
  rcases open_slice ht hf with ⟨h0, _⟩ | ⟨a, len2, cap2, m, n', D, Pl, hcs, hb, hl, hmx, hmm, hx, hi⟩
  · have h0' : [Value.slice oa len cap] = [.slice none 0 0] := h0
    simp only [List.cons.injEq, and_true, Value.slice.injEq] at h0'
    obtain ⟨rfl, rfl, rfl⟩ := h0'
    exact ⟨[], rfl, ⟨fun _ => ⟨rfl, rfl⟩, Nat.le_refl _, fun x hx => absurd hx (by simp), fun h => absurd h (by simp)⟩, .inl rfl⟩
  · have hcs' : [Value.slice oa len cap] = [.slice (some a) len2 cap2] := hcs
    simp only [List.cons.injEq, and_true, Value.slice.injEq] at hcs'
    obtain ⟨rfl, rfl, rfl⟩ := hcs'
    have e9 : Try.prog.cellsOf 33 = 9 := by kernel_rfl
    rw [e9] at hi
    have hlm : len ≤ m := by rw [hmm]; split <;> omega
    obtain ⟨f, hff⟩ := choose_lt (α := Int × (BitVec 64 × BitVec 64 × BitVec 64 × BitVec 64) × Int × Int × Int × Int) (n := len) (p := fun i q => NdFit ⟨q.1, ⟨q.2.1.1, q.2.1.2.1, q.2.1.2.2.1, q.2.1.2.2.2⟩, q.2.2.1, q.2.2.2.1, q.2.2.2.2.1, q.2.2.2.2.2⟩ ∧ ∀ j, j < 9 → w.cell? (a.add (i * 9 + j)) = (ndCells ⟨q.1, ⟨q.2.1.1, q.2.1.2.1, q.2.1.2.2.1, q.2.1.2.2.2⟩, q.2.2.1, q.2.2.2.1, q.2.2.2.2.1, q.2.2.2.2.2⟩)[j]?) (fun i hil => by
      obtain ⟨cs', hc, ht'⟩ := hi i (by omega)
      obtain ⟨x, hx, rfl⟩ := open_node ht'
      obtain ⟨_, _, hat⟩ := World.cells?_some hc
      refine ⟨(x.op, (x.set.w0, x.set.w1, x.set.w2, x.set.w3), x.n, x.min, x.max, x.kids), hx, fun j hj => ?_⟩
      have := hat j hj
      rw [add_add] at this
      rw [this]
      simp)
    have hL : ((List.range len).map fun i => (⟨(f i).1, ⟨(f i).2.1.1, (f i).2.1.2.1, (f i).2.1.2.2.1, (f i).2.1.2.2.2⟩, (f i).2.2.1, (f i).2.2.2.1, (f i).2.2.2.2.1, (f i).2.2.2.2.2⟩ : Nd)).length = len := by simp
    refine ⟨(List.range len).map fun i => ⟨(f i).1, ⟨(f i).2.1.1, (f i).2.1.2.1, (f i).2.1.2.2.1, (f i).2.1.2.2.2⟩, (f i).2.2.1, (f i).2.2.2.1, (f i).2.2.2.2.1, (f i).2.2.2.2.2⟩, hL, ⟨fun h => (by cases h), by rw [hL]; exact hl, fun x hx => ?_, fun hp => ?_⟩, ?_⟩
    · simp only [List.mem_map, List.mem_range] at hx
      obtain ⟨i, hi2, rfl⟩ := hx
      exact (hff i hi2).1
    · rw [hL] at hp
      obtain ⟨b, off, spot⟩ := a
      have c0 := (hff 0 hp).2 0 (by decide)
      have hspot : spot = none := by simpa [Addr.add] using World.cell?_spot c0
      subst hspot
      have hadd : ∀ k, (⟨b, off, none⟩ : Addr).add k = ⟨b, off + k, none⟩ := fun k => by unfold Addr.add; split <;> simp_all
      refine ⟨b, off, rfl, cell_lt c0, fun i hil j hj => ?_⟩
      rw [hL] at hil
      have h1 := (hff i hil).2 j hj
      rw [hadd, ← Nat.add_assoc] at h1
      rw [h1]
      simp [List.getD_eq_getElem?_getD, hil]
    · right
      simp only [Prod.mk.injEq] at hx
      exact ⟨_, _, hx.1, by simp⟩
end
end Go.Proofs.Ytbdjcmhfcdamiaa
