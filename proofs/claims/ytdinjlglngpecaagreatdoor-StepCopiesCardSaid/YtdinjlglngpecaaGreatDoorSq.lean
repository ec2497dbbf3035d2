/- Contracts of package step: Step, each way. No condition. -/
import Derived.Test.YtdinjlglngpecaaGreatDoorSp
namespace Go.Proofs.YtdinjlglngpecaaGreatDoor
open Go.RowKit

section
variable {w w' w2 : World} {k : CK} {s s' : CS} {T T' X : List Nat} {pk pk' : Option Nat} {base : Nat} {mu : Bool} {oa : Option Addr} {m ca n n' u u' z z' : Nat} {O O' : Nat → Option Nat} {A A' : List Nat}
set_option maxRecDepth 100000 in
set_option maxHeartbeats 3200000 in
theorem step_some (h : StS w k s T pk base mu oa m ca n u z O A) (hp : s.pl = -1) (hz : z ≤ 549755813888) (hmu : mu = false → z < 450) (hm : n < m) (hmz : m ≤ 4611686018427387903) {B : Nat} (hB : B ≤ k.wb) {LL : List Lin} (hL : LnB w B oa LL) {l : Lin} (hl : LL[n]? = some l) (hll : l.T.length ≤ 1048576) :
    Calls Tryz.prog 13 #[.pointer (some ⟨k.mb, 0, none⟩)] w fun e w' => e = .returned (.int .i64 0) ∧ ∃ O' pk', StS w' k { s with fl := false, pl := 0, nx := 0, er := 0 } l.T pk' base mu oa m ca (n + 1) u (z + 5) O' A ∧ Grw w w' (sfoot k O pk) (sfoot k O' pk') := by
  obtain ⟨fl, pl, nx, st, er, si⟩ := s
  dsimp only at hp
  subst hp
  dsimp only
  have hmf : ∀ (fn : Fn) (first cap : Array Value) (w : World), (Instr.makeFunc fn first cap).run Tryz.prog w = .ok (.func fn first cap) w := fun _ _ _ _ => rfl
  obtain ⟨hs1, hg1⟩ := h.put 9 rfl (.int .i64 0) (s' := ⟨fl, -1, 0, st, er, si⟩) rfl
  have HS1 := Lib.hid hs1
  have HG1 := Lib.hid hg1
  have HL : Hid (LnB (w.setCell ⟨k.cb, 268, none⟩ (.int .i64 0)) B oa LL) := Lib.hid (hL.below (hg1.kept.below (by have := h.wl.lt; omega) fun j hj e => by
    rcases e with e | e | e
    · omega
    · have := (h.wl.footLt e).1; have := h.blt; omega
    · have := h.pq e; omega))
  have HZ := Lib.hid hz
  have HM := Lib.hid hm
  have HMU := Lib.hid hmu
  have HMZ := Lib.hid hmz
  have HB := Lib.hid hB
  have HLL := Lib.hid hl
  have HLT := Lib.hid hll
  have m0 := h.ma.m0
  have ml := h.ma.mlt
  have c8 := h.ma.co.get 8 rfl
  have c9 := h.ma.co.get 9 rfl
  have z9 := h.ma.co.fz 268
  have hc := h.ma.co.lt
  clear h hz hm hs1 hg1 hmu hmz hB hL hl hll
  go_enter Tryz.func13, Tryz.ntmps13
  go_upto_region 10 with fail
  obtain ⟨W, hW⟩ : ∃ W, w.setCell ⟨k.cb, 268, none⟩ (.int .i64 0) = W := ⟨_, rfl⟩
  rw [hW] at HS1 HG1 HL ⊢
  clear hW m0 ml c8 c9 z9 hc
  have c0 := HS1.out.ma.co.get 0 rfl
  have hc := HS1.out.ma.co.lt
  have HR := Lib.hid (sread_some HS1.out HZ.out HMU.out HM.out HMZ.out HB.out HL.out HLL.out HLT.out)
  unfold putV at HR
  go_wp2_with fail
  refine HR.out.mono ?_; rintro e w1 ⟨rfl, O1, pk1, hs, hg⟩
  clear HR c0
  obtain ⟨hs2, hg2⟩ := hs.put 11 rfl (.int .i64 0) (s' := ⟨false, -1, 0, st, 0, si⟩) rfl
  have HS2 := Lib.hid hs2
  have HG2 := Lib.hid ((HG1.out.trans hg).trans hg2)
  have c11 := hs.ma.co.get 11 rfl
  have z11 := hs.ma.co.fz 270
  have hc := hs.ma.co.lt
  clear hs hg hs2 hg2
  go_upto_region 14 with fail
  obtain ⟨V, hV⟩ : ∃ V, w1.setCell ⟨k.cb, 270, none⟩ (.int .i64 0) = V := ⟨_, rfl⟩
  rw [hV] at HS2 HG2 ⊢
  clear hV c11 z11 hc HS1 HG1
  have c11 := HS2.out.ma.co.get 11 rfl
  have c9 := HS2.out.ma.co.get 9 rfl
  have hc := HS2.out.ma.co.lt
  have HGT := Lib.hid (goto_call HS2.out.ma (i := 0) (Nat.zero_le _))
  go_wp2_with fail
  refine HGT.out.mono ?_; rintro e w3 ⟨rfl, hm3, hk3⟩
  obtain ⟨hs3, hg3⟩ := HS2.out.mach hm3 hk3 (.inl rfl)
  have HS3 := Lib.hid hs3
  have HG3 := Lib.hid (HG2.out.trans hg3)
  clear hm3 hk3 hs3 hg3 c11 c9 hc HS2 HG2 HGT
  have c11 := HS3.out.ma.co.get 11 rfl
  have hc := HS3.out.ma.co.lt
  go_wp2_with fail
  go_ret
  exact ⟨rfl, O1, pk1, HS3.out, HG3.out⟩
set_option maxRecDepth 100000 in
set_option maxHeartbeats 3200000 in
theorem step_end (h : StS w k s T pk base mu oa m ca n u z O A) (hp : s.pl = (k.nc : Nat)) (hsi : s.si = false) (hz : z ≤ 549755813888) (hu : u ≤ 549755813888) (hA : A.length ≤ 274877906944) :
    Calls Tryz.prog 13 #[.pointer (some ⟨k.mb, 0, none⟩)] w fun e w' => e = .returned (.int .i64 0) ∧ ∃ O' u', u' ≤ u + 1 ∧ StS w' k { s with pl := -1, nx := -1, er := 0 } T pk base mu oa m ca n u' (z + (T.length + 8)) O' (A ++ bif k.q then [] else T ++ [10]) ∧ Grw w w' (sfoot k O pk) (sfoot k O' pk) := by
  obtain ⟨fl, pl, nx, st, er, si⟩ := s
  dsimp only at hp hsi
  subst hp hsi
  obtain ⟨Y, hY⟩ : ∃ Y, (A ++ bif k.q then [] else T ++ [10]) = Y := ⟨_, rfl⟩
  have HR := Lib.hid (send_call h hz hu hA rfl)
  rw [hY] at HR ⊢
  dsimp only
  have HS1 := Lib.hid h
  have HG1 := Lib.hid (Grw.refl w (sfoot k O pk))
  have m0 := h.ma.m0
  have ml := h.ma.mlt
  have c8 := h.ma.co.get 8 rfl
  have c1 := h.ma.co.get 1 rfl
  have hc := h.ma.co.lt
  have hn := h.ma.n01
  obtain ⟨nc, hnc⟩ : ∃ nc, k.nc = nc := ⟨_, rfl⟩
  rw [hnc] at hn
  rw [hnc] at c1
  dsimp only at c8
  rw [hnc] at c8
  have q2 : ((nc : Int) == -2) = false := beq_eq_false_iff_ne.2 (by omega)
  have q1 : ((nc : Int) == -1) = false := beq_eq_false_iff_ne.2 (by omega)
  clear h hz hu hA hY hnc hn
  go_enter Tryz.func13, Tryz.ntmps13
  go_wp2_with fail
  refine HR.out.mono ?_; rintro e w1 ⟨rfl, O1, u1, hu1, hs, hg⟩
  have HU1 := Lib.hid hu1
  clear HR c1 c8 m0 ml hc hu1 q1 q2
  obtain ⟨hs2, hg2⟩ := hs.put 11 rfl (.int .i64 0) (s' := ⟨fl, k.nc, -1, st, 0, false⟩) rfl
  have HS2 := Lib.hid hs2
  have HG2 := Lib.hid ((HG1.out.trans hg).trans hg2)
  have c11 := hs.ma.co.get 11 rfl
  have z11 := hs.ma.co.fz 270
  have hc := hs.ma.co.lt
  clear hs hg hs2 hg2
  go_upto_region 14 with fail
  obtain ⟨V, hV⟩ : ∃ V, w1.setCell ⟨k.cb, 270, none⟩ (.int .i64 0) = V := ⟨_, rfl⟩
  rw [hV] at HS2 HG2 ⊢
  clear hV c11 z11 hc HS1 HG1
  have c11 := HS2.out.ma.co.get 11 rfl
  have c9 := HS2.out.ma.co.get 9 rfl
  have hc := HS2.out.ma.co.lt
  obtain ⟨hs3, hg3⟩ := HS2.out.put 8 rfl (.int .i64 (-1)) (s' := ⟨fl, -1, -1, st, 0, false⟩) rfl
  have HS3 := Lib.hid hs3
  have HG3 := Lib.hid (HG2.out.trans hg3)
  have c8 := HS2.out.ma.co.get 8 rfl
  have z8 := HS2.out.ma.co.fz 267
  clear hs3 hg3
  go_upto_region 18 with fail
  obtain ⟨U, hU⟩ : ∃ U, V.setCell ⟨k.cb, 267, none⟩ (.int .i64 (-1)) = U := ⟨_, rfl⟩
  rw [hU] at HS3 HG3 ⊢
  clear hU c11 c9 c8 z8 hc HS2 HG2
  have c11 := HS3.out.ma.co.get 11 rfl
  have hc := HS3.out.ma.co.lt
  go_wp2_with fail
  go_ret
  exact ⟨rfl, O1, u1, HU1.out, HS3.out, HG3.out⟩
set_option maxRecDepth 100000 in
set_option maxHeartbeats 3200000 in
theorem step_cmd (h : StS w k s T pk base mu oa m ca n u z O A) (hp : s.pl = 0) (hn : k.nc = 1) (hz : z ≤ 549755813888) (hu : u ≤ 549755813888) (hA : A.length ≤ 274877906944) (hs0 : 0 ≤ s.st) (hs1 : s.st ≤ 1099511627776) :
    Calls Tryz.prog 13 #[.pointer (some ⟨k.mb, 0, none⟩)] w fun e w' => e = .returned (.int .i64 0) ∧ ∃ O', StS w' k { s with st := s.st + 1, pl := 1, nx := 1, er := 0 } T pk base mu oa m ca n (u + 1) (z + (T.length + 8)) O' (A ++ (T ++ [10])) ∧ Grw w w' (sfoot k O pk) (sfoot k O' pk) := by
  obtain ⟨fl, pl, nx, st, er, si⟩ := s
  dsimp only at hp hs0 hs1
  subst hp
  obtain ⟨Y, hY⟩ : ∃ Y, A ++ (T ++ [10]) = Y := ⟨_, rfl⟩
  have HR := Lib.hid (scommand_call h hn hz hu hA hs0 hs1)
  rw [hY] at HR ⊢
  dsimp only
  have HN := Lib.hid hn
  have HS1 := Lib.hid h
  have HG1 := Lib.hid (Grw.refl w (sfoot k O pk))
  have m0 := h.ma.m0
  have ml := h.ma.mlt
  have c8 := h.ma.co.get 8 rfl
  have c1 := h.ma.co.get 1 rfl
  have hc := h.ma.co.lt
  rw [hn] at c1
  clear h hz hu hA hY hn hs0 hs1
  go_enter Tryz.func13, Tryz.ntmps13
  go_wp2_with fail
  refine HR.out.mono ?_; rintro e w1 ⟨rfl, O1, hs, hg⟩
  clear HR c1 c8 m0 ml hc
  obtain ⟨hs2, hg2⟩ := hs.put 11 rfl (.int .i64 0) (s' := ⟨fl, 0, 1, st + 1, 0, si⟩) rfl
  have HS2 := Lib.hid hs2
  have HG2 := Lib.hid ((HG1.out.trans hg).trans hg2)
  have c11 := hs.ma.co.get 11 rfl
  have z11 := hs.ma.co.fz 270
  have hc := hs.ma.co.lt
  clear hs hg hs2 hg2
  go_upto_region 14 with fail
  obtain ⟨V, hV⟩ : ∃ V, w1.setCell ⟨k.cb, 270, none⟩ (.int .i64 0) = V := ⟨_, rfl⟩
  rw [hV] at HS2 HG2 ⊢
  clear hV c11 z11 hc HS1 HG1
  have c11 := HS2.out.ma.co.get 11 rfl
  have c9 := HS2.out.ma.co.get 9 rfl
  have hc := HS2.out.ma.co.lt
  have HGT := Lib.hid (goto_call HS2.out.ma (i := 1) (by rw [HN.out]; exact Nat.le_refl _))
  go_wp2_with fail
  refine HGT.out.mono ?_; rintro e w3 ⟨rfl, hm3, hk3⟩
  obtain ⟨hs3, hg3⟩ := HS2.out.mach hm3 hk3 (.inl rfl)
  have HS3 := Lib.hid hs3
  have HG3 := Lib.hid (HG2.out.trans hg3)
  clear hm3 hk3 hs3 hg3 c11 c9 hc HS2 HG2 HGT
  have c11 := HS3.out.ma.co.get 11 rfl
  have hc := HS3.out.ma.co.lt
  go_wp2_with fail
  go_ret
  exact ⟨rfl, O1, HS3.out, HG3.out⟩
end
end Go.Proofs.YtdinjlglngpecaaGreatDoor
