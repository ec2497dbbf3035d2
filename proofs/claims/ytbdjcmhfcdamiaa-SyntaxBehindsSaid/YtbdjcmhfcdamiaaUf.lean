/- Contracts of what the statements use on lists of nodes: Beyond. -/
import Derived.Test.YtbdjcmhfcdamiaaUe
namespace Go.Proofs.Ytbdjcmhfcdamiaa
open Go.RowKit

/-- Nodes that came in. -/
structure NdW (w : World) (oa : Option Addr) (cap : Nat) (re : List Nd) : Prop where
  no : oa = none → re = [] ∧ cap = 0
  cp : re.length ≤ cap
  wf : ∀ x ∈ re, (-128 ≤ x.op ∧ x.op ≤ 127) ∧ (-9223372036854775808 ≤ x.n ∧ x.n ≤ 9223372036854775807) ∧ (-9223372036854775808 ≤ x.min ∧ x.min ≤ 9223372036854775807) ∧ (-9223372036854775808 ≤ x.max ∧ x.max ≤ 9223372036854775807) ∧ (-9223372036854775808 ≤ x.kids ∧ x.kids ≤ 9223372036854775807)
  at_ : 0 < re.length → ∃ nb no, oa = some ⟨nb, no, none⟩ ∧ nb < w.heap.size ∧ ∀ i, i < re.length → ∀ j, j < 9 → w.cell? ⟨nb, no + i * 9 + j, none⟩ = (ndCells (re.getD i Nd.zero))[j]?
theorem NdW.below {w w' : World} {oa : Option Addr} {cap : Nat} {re : List Nd} (h : NdW w oa cap re) (hb : Below w.heap.size w w') : NdW w' oa cap re :=
  ⟨h.no, h.cp, h.wf, fun hp => by
    obtain ⟨nb, no, h1, h2, h3⟩ := h.at_ hp
    exact ⟨nb, no, h1, Nat.lt_of_lt_of_le h2 hb.size, fun i hi j hj => (hb.cell (p := ⟨nb, no + i * 9 + j, none⟩) h2).trans (h3 i hi j hj)⟩⟩
theorem NdW.toV {w : World} {oa : Option Addr} {cap : Nat} {re : List Nd} (h : NdW w oa cap re) (hl : re.length ≤ 4294967296) : NdV w oa re :=
  ⟨hl, fun hp => by
    obtain ⟨nb, no, h1, h2, h3⟩ := h.at_ hp
    exact ⟨nb, no, h1, h2, hl, fun i hi j => if hj : j < 9 then .inl (h3 i hi j hj) else .inr (by omega), fun x hx => (h.wf x hx).2.2.2.2.2⟩⟩
theorem NdW.op {w : World} {oa : Option Addr} {cap : Nat} {re : List Nd} (h : NdW w oa cap re) : Hid (∀ x ∈ re, -128 ≤ x.op ∧ x.op ≤ 127) := fun x hx => (h.wf x hx).1
/-- A cell of one of them. -/
theorem NdW.kids {w : World} {oa : Option Addr} {cap : Nat} {re : List Nd} (h : NdW w oa cap re) {i : Nat} {x : Nd} (hx : re[i]? = some x) : ∃ nb no, oa = some ⟨nb, no, none⟩ ∧ nb < w.heap.size ∧ w.cell? ⟨nb, no + i * 9 + 8, none⟩ = some (.int .i64 x.kids) := by
  have hi : i < re.length := (List.getElem?_eq_some_iff.1 hx).1
  obtain ⟨nb, no, h1, h2, h3⟩ := h.at_ (by omega)
  have hg : re.getD i Nd.zero = x := by simp [List.getD_eq_getElem?_getD, hx]
  have := h3 i hi 8 (by decide)
  rw [hg] at this
  exact ⟨nb, no, h1, h2, this⟩

theorem elInt : ElT Try.prog 53 3 1 8 (.int .i64 0) := ⟨Try.underlying53, by kernel_rfl, rfl, by decide⟩
/-- Ints of the call's own. -/
def Ins (w : World) (base : Nat) (v : Value) (xs : List Int) : Prop := w.ownsRow base 3 1 v xs.length (xs.map (.int .i64))
theorem Ins.nil (w : World) (base : Nat) : Ins w base (.slice none 0 0) [] := World.ownsRow_nil _ _ _ _
theorem Ins.lt {w : World} {base : Nat} {v : Value} {xs : List Int} (h : Ins w base v xs) : ∀ g, v.ownBlock = some g → base ≤ g ∧ g < w.heap.size := World.ownsRow.lt h
theorem Ins.row {w : World} {base : Nat} {v : Value} {xs : List Int} (h : Ins w base v xs) (hn : 0 < xs.length) : ∃ g cp, v = .slice (some ⟨g, 0, none⟩) xs.length cp ∧ base ≤ g ∧ g < w.heap.size ∧ xs.length ≤ cp := by
  rcases h.2 with ⟨_, h2⟩ | ⟨g, cp, _, h1, h3, h4, h5, _⟩
  · omega
  · exact ⟨g, cp, h1, h3, (Array.getElem?_eq_some_iff.1 h4).1, h5⟩
theorem Ins.form {w : World} {base : Nat} {v : Value} {xs : List Int} (h : Ins w base v xs) : ∃ o c, v = .slice o xs.length c := by
  rcases h.2 with ⟨h1, h2⟩ | ⟨g, cp, _, h1, _⟩
  · exact ⟨none, 0, by rw [h1, h2]⟩
  · exact ⟨_, _, h1⟩
/-- Some truth value. -/
def SomeB (w : World) (e : Ending) (w' : World) : Prop := (∃ b, e = .returned (.bool b)) ∧ Below w.heap.size w w'
theorem Ins.snoc {w : World} {base : Nat} {v : Value} {xs : List Int} {x : Int} (h : w.ownsRow base 3 1 v (xs.length + 1) (xs.map (.int .i64) ++ [.int .i64 x])) : Ins w base v (xs ++ [x]) := by
  unfold Ins
  rw [List.length_append, List.map_append]
  exact h
theorem Ins.alloc {w : World} {base : Nat} {v : Value} {xs : List Int} (h : Ins w base v xs) (o : Obj) : w.alloc o |>.ownsRow base 3 1 v xs.length (xs.map (.int .i64)) := World.ownsRow.alloc h o
theorem list_last {α : Type} (l : List α) : l = [] ∨ ∃ z x, l = z ++ [x] := by
  rcases List.eq_nil_or_concat l with h | ⟨z, x, h⟩
  · exact .inl h
  · exact .inr ⟨z, x, by simpa using h⟩
set_option maxRecDepth 100000 in
set_option maxHeartbeats 1600000 in
theorem beyond_call {re : List Nd} {oa : Option Addr} {cap : Nat} {w : World} (hv : NdW w oa cap re) (z : re.length * 72 ≤ 140737488351232) :
    Calls Try.prog 10 #[.slice oa re.length cap] w (SomeB w) := by
  have HV := Lib.hid hv
  clear hv
  go_enter Try.func10, Try.ntmps10
  go_wp2_with fail
  go_loopg [3, 4] re.length (fun n sv iv wr => ∃ (d : Nat) (xs : List Int), iv = .int .i64 (d : Nat) ∧ n = re.length - d ∧ d ≤ re.length ∧ Ins wr w.heap.size sv xs ∧ xs.length ≤ 65536 ∧ Below w.heap.size w wr)
  case atStart => exact ⟨0, [], rfl, by omega, by omega, Ins.nil _ _, by simp, Below.refl _ _⟩
  case round =>
    obtain ⟨d, xs, rfl, hg, hd, hx, hxl, hb⟩ := hrel
    have HG := Lib.hid hg
    have HX := Lib.hid hx
    have HB := Lib.hid hb
    clear hg hx hb
    by_cases hlt : d < re.length
    · have hlt' : (d : Int) < (re.length : Int) := by omega
      obtain ⟨x, hxd⟩ : ∃ x, re[d]? = some x := ⟨_, List.getElem?_eq_getElem hlt⟩
      obtain ⟨nb, no, hoa, hnl, _⟩ := HV.out.kids hxd
      have HKC := Lib.hid (fun W (hW : Below w.heap.size w W) => (HV.out.below hW).kids hxd)
      subst hoa
      obtain ⟨wo, rfl⟩ : ∃ wo : World, wo = wr := ⟨_, rfl⟩
      generalize x.kids = xk at *
      clear hxd
      go_wp2_with fail
      go_loopg [3] xs.length (fun m sv wi => ∃ ys : List Int, m = ys.length ∧ Ins wi w.heap.size sv ys ∧ ys.length ≤ 65536 ∧ Below w.heap.size w wi)
      case atStart => exact ⟨xs, rfl, HX.out, hxl, HB.out⟩
      case round =>
        obtain ⟨ys, hm, hy, hyl, hbi⟩ := hrel
        have HM := Lib.hid hm
        have HBI := Lib.hid hbi
        have hbs := hbi.size
        obtain ⟨nb2, no2, he2, hnl2, hkc⟩ := HKC.out _ hbi
        cases he2
        clear hm hbi
        rcases list_last ys with rfl | ⟨zs, z, rfl⟩
        · obtain ⟨o, c, rfl⟩ := hy.form
          have HY := Lib.hid (hy.alloc (.cells #[.int .i64 xk] 3))
          clear hy
          go_wp2_with (at_builtin; refine wpList_app elInt rfl _ _ rfl w.heap.size rfl HY.out rfl (Src.new wr [.int .i64 xk] _ _ _) rfl (by simp [Value.oneCell']) (by simp [maxLen]) (by simp) (by rw [World.size_alloc]; omega) ?_)
          intro v1 w2 hown2 hgr2 hblk2
          have HI := Lib.hid (show Ins w2 w.heap.size v1 [xk] from hown2)
          have HB2 := Lib.hid ((HBI.out.alloc HBI.out.size (.cells #[.int .i64 xk] 3)).grown hgr2 (by rw [World.size_alloc]; omega) (fun k hk => (HY.out.lt k hk).1))
          obtain ⟨o3, c3, rfl⟩ := HI.out.form
          clear hown2 hgr2 hblk2
          go_wp2_with fail
          go_roundg (re.length - (d + 1))
          case measure => have := HG.out; omega
          case rel => exact ⟨d + 1, [xk], by go_num, rfl, by omega, HI.out, by simp, HB2.out⟩
        · obtain ⟨g, cp, hsv, hg1, hg2, hcp⟩ := hy.row (by simp)
          rw [List.length_append, List.length_singleton] at hsv hyl hcp
          subst hsv
          have hO : wr.ownsRow w.heap.size 3 1 (.slice (some ⟨g, 0, none⟩) (zs.length + 1) cp) (zs.length + 1) (zs.map (.int .i64) ++ [.int .i64 z]) := by
            unfold Ins at hy
            rw [List.length_append, List.map_append] at hy
            exact hy
          have hcell : wr.cell? ⟨g, zs.length, none⟩ = some (.int .i64 z) := by
            rw [World.ownsRow.cellAt hO _ (by omega), List.getElem?_append_right (by simp)]
            simp
          have hfz := World.ownsRow.frozenAt hO zs.length
          have hm1 : (zs.length : Int) + 1 - 1 = (zs.length : Int) := by omega
          have HOW := Lib.hid hO
          have HHM := HM.out
          rw [List.length_append, List.length_singleton] at HHM
          have HMM := Lib.hid HHM
          clear hy hO HM HHM
          by_cases hz : z ≤ 0
          · have hz' : decide (z ≤ 0) = true := decide_eq_true hz
            go_wp2_with fail
            go_roundg zs.length
            case measure => have := HMM.out; omega
            case rel => exact ⟨zs, rfl, ownsRow_pop (by simp) HOW.out, by omega, HBI.out⟩
          · have hz' : decide (z ≤ 0) = false := decide_eq_false hz
            go_upto_region 9 with fail
            have hst := (World.ownsRow.stored HOW.out zs.length (.int .i64 (wrap64 (z - 1)))).1
            have hset : (zs.map (fun n => Value.int .i64 n) ++ [Value.int .i64 z]).set zs.length (Value.int .i64 (wrap64 (z - 1))) = zs.map (fun n => Value.int .i64 n) ++ [Value.int .i64 (wrap64 (z - 1))] := by
              rw [List.set_append_right _ _ (by simp)]
              simp
            rw [hset] at hst
            clear hset
            have HST := Lib.hid hst
            have HB3 := Lib.hid (HBI.out.setCell (p := ⟨g, zs.length, none⟩) hg1 (.int .i64 (wrap64 (z - 1))))
            have hgs : w.heap.size ≤ (wr.setCell ⟨g, zs.length, none⟩ (.int .i64 (wrap64 (z - 1)))).heap.size := by simpa using hbs
            clear hst hcell hfz HOW hkc hnl2
            revert HST HB3 hgs
            generalize wr.setCell ⟨g, zs.length, none⟩ (.int .i64 (wrap64 (z - 1))) = W2
            generalize wrap64 (z - 1) = u
            intro HST HB3 hgs
            obtain ⟨nb3, no3, he3, hnl3, hkc⟩ := HKC.out _ HB3.out
            cases he3
            have HY := Lib.hid (HST.out.alloc (.cells #[.int .i64 xk] 3))
            go_wp2_with (at_builtin; refine wpList_app elInt rfl _ _ rfl w.heap.size rfl HY.out rfl (Src.new W2 [.int .i64 xk] _ _ _) rfl (by simp [Value.oneCell']) (by unfold maxLen; omega) (by omega) (by rw [World.size_alloc]; omega) ?_)
            intro v1 w2 hown2 hgr2 hblk2
            have HI := Lib.hid (show Ins w2 w.heap.size v1 (zs ++ [u] ++ [xk]) from by
              refine Ins.snoc ?_
              rw [List.length_append, List.length_singleton, List.map_append, List.append_assoc]
              exact hown2)
            have HB4 := Lib.hid ((HB3.out.alloc HB3.out.size (.cells #[.int .i64 xk] 3)).grown hgr2 (by rw [World.size_alloc]; omega) (fun k hk => (HY.out.lt k hk).1))
            obtain ⟨o3, c3, hv1⟩ := HI.out.form
            rw [show (zs ++ [u] ++ [xk]).length = zs.length + 1 + 1 by simp] at hv1
            subst hv1
            clear hown2 hgr2 hblk2 hkc hnl3
            by_cases hbig : 65536 < zs.length + 1 + 1
            · have hbig' : decide ((65536 : Int) < (zs.length : Int) + 1 + 1) = true := decide_eq_true (by omega)
              go_wp2_with fail
              go_ret
              exact ⟨⟨_, rfl⟩, HB4.out⟩
            · have hbig' : decide ((65536 : Int) < (zs.length : Int) + 1 + 1) = false := decide_eq_false (by omega)
              go_wp2_with fail
              go_roundg (re.length - (d + 1))
              case measure => have := HG.out; omega
              case rel => exact ⟨d + 1, zs ++ [u] ++ [xk], by go_num, rfl, by omega, HI.out, by simp; omega, HB4.out⟩
    · have hlt' : ¬ (d : Int) < (re.length : Int) := by omega
      go_wp2_with fail
      go_ret
      exact ⟨⟨_, rfl⟩, HB.out⟩
end Go.Proofs.Ytbdjcmhfcdamiaa
