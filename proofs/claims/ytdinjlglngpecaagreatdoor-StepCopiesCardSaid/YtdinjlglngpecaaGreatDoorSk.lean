/- Contracts of package step: flush, print, goTo, read. No condition. -/
import Derived.Test.YtdinjlglngpecaaGreatDoorSj
namespace Go.Proofs.YtdinjlglngpecaaGreatDoor
open Go.RowKit

section
variable {w w' w2 : World} {k : CK} {s s' : CS} {T T' X : List Nat} {pk pk' : Option Nat} {base : Nat} {mu : Bool} {oa : Option Addr} {m ca n n' u u' z z' : Nat} {O O' : Nat → Option Nat} {A A' : List Nat}
set_option maxRecDepth 100000 in
set_option maxHeartbeats 1600000 in
theorem sflush_call (h : MaS w k s T pk) :
    Calls Tryz.prog 64 #[.pointer (some ⟨k.cb, 0, none⟩)] w fun e w' => e = .returned (.int .i64 0) ∧ MaS w' k s T pk ∧ Kept w w' (mfoot k pk) := by
  have H := Lib.hid (h.below (Below.refl _ _).drew)
  have HF : ∀ f g, Hid _ := fun f g => Lib.hid (flush_none (h.below (Below.refl _ _).drew).qu f g)
  have c5 := h.co.get 3 rfl
  have c8 := h.co.get 4 rfl
  have hc := h.co.lt
  clear h
  go_enter Tryz.func64, Tryz.ntmps64
  go_upto_region 1 with fail
  refine wp_region_segs (X := none) 16 [] [0, 1, 2, 3, 4, 5, 6, 7, 8, 9, 10, 11, 12, 13, 14, 15] (by kernel_rfl) (by kernel_rfl) rfl (fun _ _ _ _ _ h => h) ?_
  simp only [wpSegs, pickSegs_nil, pickOps_nil, pickOps_cons, List.getD_cons_zero, List.getD_cons_succ, List.drop_succ_cons, List.drop_zero]
  repeat (go_big_quiet_step (fail))
  refine wpQuiet_nil ?_
  go_wp2_with fail
  refine (HF _ _).out.mono ?_; rintro e w1 ⟨rfl, hq, hk⟩
  have HQ := Lib.hid hq
  have HK := Lib.hid hk
  clear hq hk
  go_wp2_with fail
  go_ret
  have hk : Kept w w1 (mfoot k pk) := ((Kept.drew w (fun x => x = k.qb)).trans HK.out fun _ _ e => e).mono fun x _ e => .inl (by have := H.out.or1; omega)
  exact ⟨rfl, H.out.queue HK.out HQ.out, hk⟩
set_option maxRecDepth 100000 in
set_option maxHeartbeats 1600000 in
theorem sprint_call (h : StS w k s T pk base mu oa m ca n u z O A) (hz : z ≤ 549755813888) (hu : u ≤ 549755813888) (hA : A.length ≤ 274877906944) (i c b : Value) :
    Calls Tryz.prog 53 #[.pointer (some ⟨k.cb, 0, none⟩), i, c, b] w fun e w' => e = .returned (.int .i64 0) ∧ ∃ O', StS w' k s T pk base mu oa m ca n (u + 1) (z + (T.length + 8)) O' (A ++ (T ++ [10])) ∧ Grw w w' (sfoot k O pk) (sfoot k O' pk) := by
  have H := Lib.hid h
  have HP := Lib.hid (spattern_call h.ma.sp)
  have HZ := Lib.hid hz
  have HU := Lib.hid hu
  have HA := Lib.hid hA
  obtain ⟨Y, hY⟩ : ∃ Y, A ++ (T ++ [10]) = Y := ⟨_, rfl⟩
  have HY := Lib.hid hY
  rw [hY]
  have c0 := h.ma.co.get 0 rfl
  have hc := h.ma.co.lt
  clear h hz hu hA hY
  go_enter Tryz.func53, Tryz.ntmps53
  go_wp2_with fail
  refine HP.out.mono ?_; rintro e w1 ⟨⟨v, rfl, hv⟩, hb⟩
  obtain ⟨o1, k1, rfl⟩ := own_form hv
  have HR := Lib.hid (row_call (H.out.below hb) HZ.out HU.out (Src.own hv) H.out.ma.sp.tl HA.out)
  rw [HY.out] at HR
  have HB := Lib.hid hb
  clear hv hb
  go_wp2_with fail
  refine HR.out.mono ?_; rintro e w2 ⟨rfl, O2, hs, hg⟩
  have HS := Lib.hid hs
  have HG := Lib.hid (((Grw.refl w (sfoot k O pk)).below HB.out).trans hg)
  clear hs hg
  go_wp2_with fail
  go_ret
  exact ⟨rfl, O2, HS.out, HG.out⟩
set_option maxRecDepth 100000 in
set_option maxHeartbeats 1600000 in
theorem goto_call (h : MaS w k s T pk) {i : Nat} (hi : i ≤ k.nc) :
    Calls Tryz.prog 28 #[.pointer (some ⟨k.cb, 0, none⟩), .int .i64 (i : Nat)] w fun e w' => e = .returned (.tuple #[]) ∧ MaS w' k { s with pl := (i : Nat) } T pk ∧ Kept w w' (mfoot k pk) := by
  have HS := Lib.hid (h.set 8 rfl (.int .i64 (i : Nat)) (s' := { s with pl := (i : Nat) }) rfl)
  have c1 := h.co.get 1 rfl
  have c8 := h.co.get 8 rfl
  have hc := h.co.lt
  have z8 := h.co.fz 267
  have HD : Hid (¬ i < k.nc ∨ (i = 0 ∧ k.nc = 1 ∧ k.oc = some ⟨k.pb, 0, none⟩ ∧ k.pb < w.heap.size ∧ w.cell? ⟨k.pb, 7, none⟩ = some (.int .u8 112))) := Lib.hid (by
    rcases h.n01 with e | e
    · exact .inl (by omega)
    · by_cases q : i < k.nc
      · obtain ⟨e1, _, _, l, e2⟩ := h.cm e
        have := e2.row 7 _ e2.nm
        exact .inr ⟨by omega, e, e1, e2.lt, by simpa using this⟩
      · exact .inl q)
  obtain ⟨nc, hnc⟩ : ∃ nc, k.nc = nc := ⟨_, rfl⟩
  obtain ⟨oc, hoc⟩ : ∃ oc, k.oc = oc := ⟨_, rfl⟩
  rw [hnc, hoc] at c1
  rw [hnc, hoc] at HD
  clear h hi hnc hoc
  go_enter Tryz.func28, Tryz.ntmps28
  go_wp2_with fail
  go_loopg [1] 1 (fun gk iv wr => iv = .int .i64 (i : Nat) ∧ wr = w)
  case atStart => exact ⟨rfl, rfl⟩
  case round =>
  obtain ⟨rfl, rfl⟩ := hrel
  rcases HD.out with q | ⟨rfl, rfl, rfl, q1, q2⟩
  · have q' : ¬ (i : Int) < (nc : Int) := by omega
    go_wp2_with fail
    go_end0
    exact ⟨rfl, HS.out.1, HS.out.2⟩
  · go_wp2_with fail
    go_end0
    exact ⟨rfl, HS.out.1, HS.out.2⟩
end
end Go.Proofs.YtdinjlglngpecaaGreatDoor
