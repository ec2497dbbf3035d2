/- Marks of the code's own; a text's marks; two lists of nodes compared. -/
import Derived.Test.YtbdjcmhfcdamiaaDoorTe
import Derived.Test.YtbdjcmhfcdamiaaDoorRp
namespace Go.Proofs.YtbdjcmhfcdamiaaDoor
open Go.RowKit

/-- The cells of marks. -/
def mksC (L : List Mk) : List Value := L.flatMap fun m => [.int .u8 (m.b : Nat), .bool m.p]
theorem mksC_length : ∀ L : List Mk, (mksC L).length = L.length * 2
  | [] => rfl
  | x :: l => by
    have h := mksC_length l
    simp only [mksC, List.flatMap_cons, List.length_append, List.length_cons, List.length_nil] at h ⊢
    omega
theorem mksC_append (a b : List Mk) : mksC (a ++ b) = mksC a ++ mksC b := by simp [mksC]
theorem mksC_one (L : List Mk) : ∀ u ∈ mksC L, u.oneCell' = true := by
  intro u hu
  simp only [mksC, List.mem_flatMap, List.mem_cons, List.not_mem_nil, or_false] at hu
  obtain ⟨x, _, rfl | rfl⟩ := hu <;> rfl
theorem mksC_at : ∀ (L : List Mk) (i : Nat), i < L.length → (mksC L)[i * 2]? = some (.int .u8 ((markAt L i).b : Nat)) ∧ (mksC L)[i * 2 + 1]? = some (.bool (markAt L i).p)
  | [], i, h => by simp at h
  | x :: l, 0, _ => ⟨rfl, rfl⟩
  | x :: l, i + 1, h => by
    have h1 := mksC_at l i (by simpa using h)
    have h2 : mksC (x :: l) = .int .u8 (x.b : Nat) :: .bool x.p :: mksC l := rfl
    rw [h2, show (i + 1) * 2 = i * 2 + 1 + 1 by omega]
    simpa [markAt] using h1
theorem elMk : ElT Tryd.prog 22 33 2 2 (.agg #[.int .u8 0, .bool false]) := ⟨Tryd.underlying22, by kernel_rfl, rfl, by decide⟩
/-- Marks of the call's own. -/
def Mks (w : World) (base : Nat) (v : Value) (L : List Mk) : Prop := w.ownsRow base 33 2 v L.length (mksC L)
theorem Mks.nil (w : World) (base : Nat) : Mks w base (.slice none 0 0) [] := World.ownsRow_nil _ _ _ _
theorem Mks.lt {w : World} {base : Nat} {v : Value} {L : List Mk} (h : Mks w base v L) : ∀ g, v.ownBlock = some g → base ≤ g ∧ g < w.heap.size := World.ownsRow.lt h
theorem Mks.block {w w' : World} {base : Nat} {v : Value} {L : List Mk} (h : Mks w base v L) (hb : ∀ g, v.ownBlock = some g → w'.heap[g]? = w.heap[g]?) : Mks w' base v L := ownsRow_of_block h hb
theorem Mks.below {w w' : World} {base : Nat} {v : Value} {L : List Mk} (h : Mks w base v L) (hb : Below w.heap.size w w') : Mks w' base v L := h.block fun g hg => hb.block g (h.lt g hg).2
theorem wpList_mks {w : World} {ops : Array Oper} {rest : List Oper} {o : Oper} {a : Act} {Q : Exit → Act → World → Prop}
    (hgd : o.guard = none) (s x : Operand) (ho : o.op = .call { callee := .builtin .append, args := #[s, x], argTypes := #[22, 22] })
    (base : Nat) {v sv : Value} {xs ys : List Mk} (hs : a.eval s = v) (hown : Mks w base v xs) (hx : a.eval x = sv) (hsrc : Src w sv ys.length (mksC ys))
    (hb : xs.length + ys.length ≤ 4294967296) (hbase : base ≤ w.heap.size)
    (h : ∀ v' w', Mks w' base v' (xs ++ ys) → w.grownBy w' v.ownBlock → (v'.ownBlock = v.ownBlock ∨ v'.ownBlock = some w.heap.size) → wpList Tryd.prog ops Q rest (a.put o.dst v') w') :
    wpList Tryd.prog ops Q (o :: rest) a w := by
  refine wpList_app elMk hgd s x ho base hs hown hx hsrc (mksC_length ys) (mksC_one ys) (by unfold maxLen; omega) (by omega) hbase ?_
  intro v' w' h1 h2 h3
  refine h v' w' ?_ h2 h3
  rw [Mks, List.length_append, mksC_append]
  exact h1
theorem Mks.at {w : World} {base : Nat} {v : Value} {L : List Mk} (h : Mks w base v L) (hn : 0 < L.length) (hl : L.length ≤ 4096) (hu : ∀ i, i < L.length → (markAt L i).b < 256) :
    ∃ g cp, v = .slice (some ⟨g, 0, none⟩) L.length cp ∧ base ≤ g ∧ MkAt w g 0 L := by
  rcases h.2 with ⟨_, h0⟩ | ⟨g, cp, cur, rfl, hg1, hg2, _⟩
  · omega
  · have hadd : ∀ j, (⟨g, 0, none⟩ : Addr).add j = ⟨g, j, none⟩ := fun j => by unfold Addr.add; split <;> simp_all
    have hc : ∀ j u, (mksC L)[j]? = some u → w.cell? ⟨g, j, none⟩ = some u := fun j u hu => by
      rw [← hadd]; exact World.ownsRow.cells h rfl j u hu
    refine ⟨g, cp, rfl, hg1, ⟨(Array.getElem?_eq_some_iff.1 hg2).1, hl, fun i hi => ?_, fun i hi => ?_, hu⟩⟩
    · rw [Nat.zero_add]; exact hc _ _ (mksC_at L i hi).1
    · rw [Nat.zero_add]; exact hc _ _ (mksC_at L i hi).2
/-- The slice's form. -/
theorem Mks.form {w : World} {base : Nat} {v : Value} {L : List Mk} (h : Mks w base v L) : ∃ o c, v = .slice o L.length c := by
  rcases h.2 with ⟨h1, h2⟩ | ⟨g, cp, _, h1, _⟩
  · exact ⟨none, 0, by rw [h1, h2]⟩
  · exact ⟨_, _, h1⟩

/-! ### A text's marks -/
def textM (s : ByteArray) : List Mk := (bytesOf s).map fun b => ⟨b, false⟩
theorem textM_length (s : ByteArray) : (textM s).length = s.size := by simp [textM, bytesOf_length]
theorem textM_take (s : ByteArray) (d : Nat) (h : d < s.size) : (textM s).take (d + 1) = (textM s).take d ++ [⟨s[d].toNat, false⟩] := by
  rw [List.take_add_one]
  congr 1
  have h1 := bytesOf_getD s d h
  have h2 : d < (bytesOf s).length := by rw [bytesOf_length]; exact h
  rw [List.getD_eq_getElem?_getD, List.getElem?_eq_getElem h2, Option.getD_some] at h1
  rw [textM, List.getElem?_map, List.getElem?_eq_getElem h2, Option.map_some, h1]
  rfl

set_option maxRecDepth 100000 in
set_option maxHeartbeats 1600000 in
theorem marks_call (s : ByteArray) (hs : s.size ≤ 4294967295) {w : World} :
    Calls Tryd.prog 21 #[.string s] w fun e w' => (∃ v, e = .returned v ∧ Mks w' w.heap.size v (textM s)) ∧ Below w.heap.size w w' := by
  go_enter Tryd.func21, Tryd.ntmps21
  go_wp2_with fail
  go_loopg [3, 4] s.size (fun n lv iv wr => ∃ d : Nat, iv = .int .i64 (d : Nat) ∧ n = s.size - d ∧ d ≤ s.size ∧ Mks wr w.heap.size lv ((textM s).take d) ∧ Below w.heap.size w wr)
  case atStart => exact ⟨0, rfl, by omega, by omega, Mks.nil _ _, Below.refl _ _⟩
  case round =>
    obtain ⟨d, rfl, hg, hd, hm, hb⟩ := hrel
    have HG := Lib.hid hg
    have HM := Lib.hid hm
    have HB := Lib.hid hb
    have hBs := hb.size
    clear hg hm hb
    by_cases hlt : d < s.size
    · have hlt' : (d : Int) < (s.size : Int) := by omega
      have HT := Lib.hid (textM_take s d hlt)
      have HM1 := Lib.hid (HM.out.below ((Below.refl wr.heap.size wr).alloc (Nat.le_refl _) (.cells #[.int .u8 (s[d].toNat : Nat), .bool false] 33)))
      have hln : ((textM s).take d).length = d := by rw [List.length_take, textM_length]; omega
      have HL := Lib.hid hln
      clear hln HM
      go_wp2_with (at_builtin; refine wpList_mks rfl _ _ rfl w.heap.size rfl HM1.out (ys := [⟨s[d].toNat, false⟩]) rfl (Src.new wr (mksC [⟨s[d].toNat, false⟩]) _ _ _) (by rw [HL.out]; simp; omega) (by simp; omega) ?_)
      intro v1 w2 hm2 hgr2 hblk2
      have HM2 := Lib.hid (show Mks w2 w.heap.size v1 ((textM s).take (d + 1)) by rw [HT.out]; exact hm2)
      have HB2 := Lib.hid ((HB.out.alloc HB.out.size (.cells #[.int .u8 (s[d].toNat : Nat), .bool false] 33)).grown hgr2 (by simp; omega) (fun k hk => (HM1.out.lt k hk).1))
      clear hm2 hgr2 hblk2
      go_wp2_with fail
      go_roundg (s.size - (d + 1))
      case measure => have := HG.out; omega
      case rel => exact ⟨d + 1, by go_num, rfl, by omega, HM2.out, HB2.out⟩
    · have hlt' : ¬ (d : Int) < (s.size : Int) := by omega
      have hde : d = s.size := by omega
      subst hde
      go_wp2_with fail
      go_ret
      have h := HM.out
      rw [← textM_length, List.take_length] at h
      exact ⟨⟨_, rfl, h⟩, HB.out⟩

/-! ### Two lists of nodes -/
theorem neq_ndV (x y : Nd) (w : World) : (binOp .neq 77 (ndV x) (ndV y)).run Tryd.prog w = .ok (.bool (!decide (x = y))) w := by
  obtain ⟨op, ⟨x0, x1, x2, x3⟩, xn, xmin, xmax, xk⟩ := x
  obtain ⟨oq, ⟨y0, y1, y2, y3⟩, yn, ymin, ymax, yk⟩ := y
  rw [ndV, ndV, neq_nd]
  congr 3
  rw [Bool.eq_iff_iff]
  simp only [Bool.and_eq_true, decide_eq_true_eq, Nd.mk.injEq, Cls.mk.injEq, ← BitVec.toNat_inj]
  constructor
  · intro h
    refine ⟨by omega, ⟨by omega, by omega, by omega, by omega⟩, by omega, by omega, by omega, by omega⟩
  · intro h; simp_all
theorem take_ne {a b : List Nd} {d : Nat} {x y : Nd} (hx : a[d]? = some x) (hy : b[d]? = some y) (h : ¬ x = y) : ¬ a = b := fun e => by subst e; rw [hx] at hy; cases hy; exact h rfl

set_option maxRecDepth 100000 in
set_option maxHeartbeats 1600000 in
theorem eqNodes_call {a b : List Nd} {oa ob : Option Addr} {ca cb : Nat} {w : World} (ha : NdV w oa a) (hb : NdV w ob b) :
    Calls Tryd.prog 27 #[.slice oa a.length ca, .slice ob b.length cb] w fun e w' => e = .returned (.bool (decide (a = b))) ∧ Below w.heap.size w w' := by
  have hla := ha.len
  have hlb := hb.len
  have HA := Lib.hid ha
  have HB := Lib.hid hb
  clear ha hb
  by_cases hl : a.length = b.length
  · have hl' : ((a.length : Int) != (b.length : Int)) = false := by simp [hl]
    rw [← hl]
    rw [← hl] at hlb
    have HL := Lib.hid hl
    clear hl hl'
    go_enter Tryd.func27, Tryd.ntmps27
    go_wp2_with fail
    go_loopg [5] a.length (fun n iv wr => ∃ d : Nat, iv = .int .i64 (d : Nat) ∧ n = a.length - d ∧ d ≤ a.length ∧ Hid (a.take d = b.take d) ∧ Below w.heap.size w wr)
    case atStart => exact ⟨0, rfl, by omega, by omega, rfl, Below.refl _ _⟩
    case round =>
      obtain ⟨d, rfl, hg, hd, HT, hbe⟩ := hrel
      have HG := Lib.hid hg
      have HBE := Lib.hid hbe
      clear hg
      by_cases hlt : d < a.length
      · have hlt' : (d : Int) < (a.length : Int) := by omega
        obtain ⟨na, oo, rfl, hna⟩ := HA.out.at_ (by omega)
        obtain ⟨nb, ob', rfl, hnb⟩ := HB.out.at_ (by have := HL.out; omega)
        obtain ⟨x, hx⟩ : ∃ x, a[d]? = some x := ⟨_, List.getElem?_eq_getElem hlt⟩
        obtain ⟨y, hy⟩ : ∃ y, b[d]? = some y := ⟨_, List.getElem?_eq_getElem (by have := HL.out; omega)⟩
        have hna2 := hna.below hbe
        have hnb2 := hnb.below hbe
        obtain ⟨n0, n1, n2, n3, n4, n5, n6, n7, n8⟩ := hna2.cells hx
        obtain ⟨m0, m1, m2, m3, m4, m5, m6, m7, m8⟩ := hnb2.cells hy
        have nal := hna2.lt
        have nbl := hnb2.lt
        have hq := neq_ndV x y
        have HX := Lib.hid hx
        have HY := Lib.hid hy
        clear hna hnb hna2 hnb2 hbe hx hy
        by_cases hxy : x = y
        · subst hxy
          rw [show (!decide (x = x)) = false by simp] at hq
          have HT1 : Hid (a.take (d + 1) = b.take (d + 1)) := by rw [Hid, List.take_add_one, List.take_add_one, HT.out, HX.out, HY.out]
          obtain ⟨op, ⟨x0, x1, x2, x3⟩, xn, xmin, xmax, xk⟩ := x
          simp only [ndV] at n0 n1 n2 n3 n4 n5 n6 n7 n8 m0 m1 m2 m3 m4 m5 m6 m7 m8 hq
          go_wp2_with fail
          refine wp_region_segs (X := none) 9 [] [0, 1, 2, 3, 4, 5, 6, 7, 8] (by kernel_rfl) (by kernel_rfl) rfl (fun _ _ _ _ _ h => h) ?_
          simp only [wpSegs, pickSegs_nil, pickOps_nil, pickOps_cons, List.getD_cons_zero, List.getD_cons_succ, List.drop_succ_cons, List.drop_nil]
          repeat (go_big_quiet_step (fail))
          refine wpQuiet_nil ?_
          go_wp2_with fail
          go_roundg (a.length - (d + 1))
          case measure => have := HG.out; omega
          case rel => exact ⟨d + 1, by go_num, rfl, by omega, HT1, HBE.out.drew⟩
        · have HF : Hid (decide (a = b) = false) := by rw [Hid, decide_eq_false (take_ne HX.out HY.out hxy)]
          rw [show (!decide (x = y)) = true by simpa using hxy] at hq
          obtain ⟨op, ⟨x0, x1, x2, x3⟩, xn, xmin, xmax, xk⟩ := x
          obtain ⟨oq, ⟨y0, y1, y2, y3⟩, yn, ymin, ymax, yk⟩ := y
          simp only [ndV] at n0 n1 n2 n3 n4 n5 n6 n7 n8 m0 m1 m2 m3 m4 m5 m6 m7 m8 hq
          clear hxy
          go_wp2_with fail
          refine wp_region_segs (X := none) 9 [] [0, 1, 2, 3, 4, 5, 6, 7, 8] (by kernel_rfl) (by kernel_rfl) rfl (fun _ _ _ _ _ h => h) ?_
          simp only [wpSegs, pickSegs_nil, pickOps_nil, pickOps_cons, List.getD_cons_zero, List.getD_cons_succ, List.drop_succ_cons, List.drop_nil]
          repeat (go_big_quiet_step (fail))
          refine wpQuiet_nil ?_
          go_wp2_with fail
          go_ret
          exact ⟨by rw [HF.out]; rfl, HBE.out.drew⟩
      · have hlt' : ¬ (d : Int) < (a.length : Int) := by omega
        have hde : d = a.length := by omega
        subst hde
        have HF : Hid (decide (a = b) = true) := by
          have h := HT.out
          rw [List.take_length, HL.out, List.take_length] at h
          rw [Hid, decide_eq_true h]
        go_wp2_with fail
        go_ret
        exact ⟨by rw [HF.out]; rfl, HBE.out⟩
  · have hl' : ((a.length : Int) != (b.length : Int)) = true := by simp; omega
    have HF : Hid (decide (a = b) = false) := by rw [Hid, decide_eq_false (fun e => hl (by rw [e]))]
    go_enter Tryd.func27, Tryd.ntmps27
    go_wp2_with fail
    go_ret
    exact ⟨by rw [HF.out]; rfl, Below.refl _ _⟩
end Go.Proofs.YtbdjcmhfcdamiaaDoor
