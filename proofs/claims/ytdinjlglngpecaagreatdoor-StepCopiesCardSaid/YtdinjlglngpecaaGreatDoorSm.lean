/- Contract of package step: end. No condition. -/
import Derived.Test.YtdinjlglngpecaaGreatDoorSl
namespace Go.Proofs.YtdinjlglngpecaaGreatDoor
open Go.RowKit

section
variable {w w' w2 : World} {k : CK} {s s' : CS} {T T' X : List Nat} {pk pk' : Option Nat} {base : Nat} {mu : Bool} {oa : Option Addr} {m ca n n' u u' z z' : Nat} {O O' : Nat → Option Nat} {A A' : List Nat}
set_option maxRecDepth 100000 in
set_option maxHeartbeats 3200000 in
theorem send_call (h : StS w k s T pk base mu oa m ca n u z O A) (hz : z ≤ 549755813888) (hu : u ≤ 549755813888) (hA : A.length ≤ 274877906944) (hsi : s.si = false) :
    Calls Tryz.prog 26 #[.pointer (some ⟨k.cb, 0, none⟩)] w fun e w' => e = .returned (.int .i64 0) ∧ ∃ O' u', u' ≤ u + 1 ∧ StS w' k { s with nx := -1 } T pk base mu oa m ca n u' (z + (T.length + 8)) O' (A ++ bif k.q then [] else T ++ [10]) ∧ Grw w w' (sfoot k O pk) (sfoot k O' pk) := by
  obtain ⟨fl, pl, nx, st, er, si⟩ := s
  cases hsi
  have H := Lib.hid h
  have HP := Lib.hid (spattern_call h.ma.sp)
  have HZ := Lib.hid hz
  have HU := Lib.hid hu
  have HA := Lib.hid hA
  have c0 := h.ma.co.get 0 rfl
  have c4 := h.ma.co.get 2 rfl
  have c13 := h.ma.co.get 12 rfl
  have z13 := h.ma.co.fz 271
  have hc := h.ma.co.lt
  clear h hz hu hA
  cases hq : k.q with
  | true =>
    rw [hq] at c4
    dsimp only [cond_true]
    have HS0 := H
    have HG0 := Lib.hid (Grw.refl w (sfoot k O pk))
    clear HP hq c0 c13 z13
    go_enter Tryz.func26, Tryz.ntmps26
    go_upto_region 5 with fail
    clear c4 hc
    obtain ⟨hs1, hk1⟩ := HS0.out.ma.set 12 rfl (.bool false) (s' := ⟨fl, pl, nx, st, er, false⟩) rfl
    obtain ⟨hs2, hg2⟩ := HS0.out.mach hs1 hk1 (.inl rfl)
    have HS1 := Lib.hid hs2
    have HG1 := Lib.hid (HG0.out.trans hg2)
    clear hs1 hk1 hs2 hg2
    have c13 := HS0.out.ma.co.get 12 rfl
    have z13 := HS0.out.ma.co.fz 271
    have hc := HS0.out.ma.co.lt
    go_upto_region 6 with fail
    obtain ⟨V, hV⟩ : ∃ V, w.setCell ⟨k.cb, 271, none⟩ (.bool false) = V := ⟨_, rfl⟩
    rw [hV] at HS1 HG1 ⊢
    clear hV c13 z13 hc HS0 HG0
    have HF := Lib.hid (sflush_call HS1.out.ma)
    go_wp2_with fail
    refine HF.out.mono ?_; rintro e w5 ⟨rfl, hm5, hk5⟩
    obtain ⟨hs5, hg5⟩ := HS1.out.mach hm5 hk5 (.inl rfl)
    obtain ⟨hm6, hk6⟩ := hm5.set 9 rfl (.int .i64 (-1)) (s' := ⟨fl, pl, -1, st, er, false⟩) rfl
    obtain ⟨hs6, hg6⟩ := hs5.mach hm6 hk6 (.inl rfl)
    have HS6 := Lib.hid hs6
    have HG6 := Lib.hid ((HG1.out.trans hg5).trans hg6)
    have c14 := hm5.co.get 13 rfl
    have c15 := hm5.co.get 14 rfl
    have c9 := hm5.co.get 9 rfl
    have z9 := hm5.co.fz 268
    have hc := hm5.co.lt
    clear hm5 hk5 hs5 hg5 hm6 hk6 hs6 hg6 HF HS1 HG1
    go_wp2_with fail
    go_ret
    exact ⟨rfl, O, u, by omega, ⟨HS6.out.ma, by rw [List.append_nil]; exact HS6.out.wl.mono (by omega), HS6.out.blt, HS6.out.bq, HS6.out.dj⟩, HG6.out⟩
  | false =>
    rw [hq] at c4
    dsimp only [cond_false]
    obtain ⟨Y, hY⟩ : ∃ Y, A ++ (T ++ [10]) = Y := ⟨_, rfl⟩
    have HY := Lib.hid hY
    rw [hY]
    clear hq hY z13
    go_enter Tryz.func26, Tryz.ntmps26
    go_wp2_with fail
    refine HP.out.mono ?_; rintro e w1 ⟨⟨v, rfl, hv⟩, hb⟩
    obtain ⟨o1, k1, rfl⟩ := own_form hv
    have HR := Lib.hid (row_call (H.out.below hb) HZ.out HU.out (Src.own hv) H.out.ma.sp.tl HA.out)
    rw [HY.out] at HR
    have HB := Lib.hid hb
    clear hv hb
    go_wp2_with fail
    refine HR.out.mono ?_; rintro e w2 ⟨rfl, O2, hs, hg⟩
    have HS0 := Lib.hid hs
    have HG0 := Lib.hid (((Grw.refl w (sfoot k O pk)).below HB.out).trans hg)
    clear hs hg HR HP HB H c0 c4 c13 hc HY
    go_upto_region 5 with fail
    obtain ⟨hs1, hk1⟩ := HS0.out.ma.set 12 rfl (.bool false) (s' := ⟨fl, pl, nx, st, er, false⟩) rfl
    obtain ⟨hs2, hg2⟩ := HS0.out.mach hs1 hk1 (.inl rfl)
    have HS1 := Lib.hid hs2
    have HG1 := Lib.hid (HG0.out.trans hg2)
    clear hs1 hk1 hs2 hg2
    have c13 := HS0.out.ma.co.get 12 rfl
    have z13 := HS0.out.ma.co.fz 271
    have hc := HS0.out.ma.co.lt
    go_upto_region 6 with fail
    obtain ⟨V, hV⟩ : ∃ V, w2.setCell ⟨k.cb, 271, none⟩ (.bool false) = V := ⟨_, rfl⟩
    rw [hV] at HS1 HG1 ⊢
    clear hV c13 z13 hc HS0 HG0
    have HF := Lib.hid (sflush_call HS1.out.ma)
    go_wp2_with fail
    refine HF.out.mono ?_; rintro e w5 ⟨rfl, hm5, hk5⟩
    obtain ⟨hs5, hg5⟩ := HS1.out.mach hm5 hk5 (.inl rfl)
    obtain ⟨hm6, hk6⟩ := hm5.set 9 rfl (.int .i64 (-1)) (s' := ⟨fl, pl, -1, st, er, false⟩) rfl
    obtain ⟨hs6, hg6⟩ := hs5.mach hm6 hk6 (.inl rfl)
    have HS6 := Lib.hid hs6
    have HG6 := Lib.hid ((HG1.out.trans hg5).trans hg6)
    have c14 := hm5.co.get 13 rfl
    have c15 := hm5.co.get 14 rfl
    have c9 := hm5.co.get 9 rfl
    have z9 := hm5.co.fz 268
    have hc := hm5.co.lt
    clear hm5 hk5 hs5 hg5 hm6 hk6 hs6 hg6 HF HS1 HG1
    go_wp2_with fail
    go_ret
    exact ⟨rfl, O2, u + 1, by omega, HS6.out, HG6.out⟩
end
end Go.Proofs.YtdinjlglngpecaaGreatDoor
