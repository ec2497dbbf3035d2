/- Contracts of package step: Step, where a line is read, at the last line's end. No condition. -/
import Derived.Test.YtdinjlglngpecaaGreatDoorSo
namespace Go.Proofs.YtdinjlglngpecaaGreatDoor
open Go.RowKit

section
variable {w w' w2 : World} {k : CK} {s s' : CS} {T T' X : List Nat} {pk pk' : Option Nat} {base : Nat} {mu : Bool} {oa : Option Addr} {m ca n n' u u' z z' : Nat} {O O' : Nat → Option Nat} {A A' : List Nat}
/-- A cell of the core is written: both go on. -/
theorem StS.put (h : StS w k s T pk base mu oa m ca n u z O A) (j : Nat) {i : Nat} {v : Value} (e : (coreL k s)[j]? = some (i, v)) (v' : Value) (hs : (coreL k s).set j (i, v') = coreL k s') : StS (w.setCell ⟨k.cb, i, none⟩ v') k s' T pk base mu oa m ca n u z O A ∧ Grw w (w.setCell ⟨k.cb, i, none⟩ v') (sfoot k O pk) (sfoot k O pk) := by
  obtain ⟨h1, h2⟩ := h.ma.set j e v' hs
  exact h.mach h1 h2 (.inl rfl)
set_option maxRecDepth 100000 in
set_option maxHeartbeats 3200000 in
theorem step_none (h : StS w k s T pk base mu oa m ca n u z O A) (hp : s.pl = -1) (hz : z ≤ 549755813888) (hm : m ≤ n) :
    Calls Tryz.prog 13 #[.pointer (some ⟨k.mb, 0, none⟩)] w fun e w' => e = .returned (.int .i64 0) ∧ ∃ O', StS w' k { s with pl := -2, nx := -2, er := 0 } T pk base mu oa m ca n u (z + 3) O' A ∧ Grw w w' (sfoot k O pk) (sfoot k O' pk) := by
  obtain ⟨fl, pl, nx, st, er, si⟩ := s
  dsimp only at hp
  subst hp
  dsimp only
  have hmf : ∀ (fn : Fn) (first cap : Array Value) (w : World), (Instr.makeFunc fn first cap).run Tryz.prog w = .ok (.func fn first cap) w := fun _ _ _ _ => rfl
  obtain ⟨hs1, hg1⟩ := h.put 9 rfl (.int .i64 0) (s' := ⟨fl, -1, 0, st, er, si⟩) rfl
  have HS1 := Lib.hid hs1
  have HG1 := Lib.hid hg1
  have HZ := Lib.hid hz
  have HM := Lib.hid hm
  have m0 := h.ma.m0
  have ml := h.ma.mlt
  have c8 := h.ma.co.get 8 rfl
  have c9 := h.ma.co.get 9 rfl
  have z9 := h.ma.co.fz 268
  have hc := h.ma.co.lt
  clear h hz hm hs1 hg1
  go_enter Tryz.func13, Tryz.ntmps13
  go_upto_region 10 with fail
  obtain ⟨W, hW⟩ : ∃ W, w.setCell ⟨k.cb, 268, none⟩ (.int .i64 0) = W := ⟨_, rfl⟩
  rw [hW] at HS1 HG1 ⊢
  clear hW m0 ml c8 c9 z9 hc
  have c0 := HS1.out.ma.co.get 0 rfl
  have hc := HS1.out.ma.co.lt
  have HR : ∀ p, Hid _ := fun p => Lib.hid (sread_none HS1.out HZ.out HM.out p)
  go_wp2_with fail
  refine (HR _).out.mono ?_; rintro e w1 ⟨rfl, O1, hs, hg⟩
  obtain ⟨hs2, hg2⟩ := hs.put 11 rfl (.int .i64 0) (s' := ⟨fl, -1, -2, st, 0, si⟩) rfl
  have HS2 := Lib.hid hs2
  have HG2 := Lib.hid ((HG1.out.trans hg).trans hg2)
  have c11 := hs.ma.co.get 11 rfl
  have z11 := hs.ma.co.fz 270
  have hc := hs.ma.co.lt
  clear hs hg hs2 hg2 HR c0
  go_upto_region 14 with fail
  obtain ⟨V, hV⟩ : ∃ V, w1.setCell ⟨k.cb, 270, none⟩ (.int .i64 0) = V := ⟨_, rfl⟩
  rw [hV] at HS2 HG2 ⊢
  clear hV c11 z11 hc HS1 HG1
  obtain ⟨hs3, hg3⟩ := HS2.out.put 8 rfl (.int .i64 (-2)) (s' := ⟨fl, -2, -2, st, 0, si⟩) rfl
  have HS3 := Lib.hid hs3
  have HG3 := Lib.hid (HG2.out.trans hg3)
  have c11 := HS2.out.ma.co.get 11 rfl
  have c9 := HS2.out.ma.co.get 9 rfl
  have c8 := HS2.out.ma.co.get 8 rfl
  have z8 := HS2.out.ma.co.fz 267
  have hc := HS2.out.ma.co.lt
  clear hs3 hg3
  go_upto_region 18 with fail
  obtain ⟨U, hU⟩ : ∃ U, V.setCell ⟨k.cb, 267, none⟩ (.int .i64 (-2)) = U := ⟨_, rfl⟩
  rw [hU] at HS3 HG3 ⊢
  clear hU c11 c9 c8 z8 hc HS2 HG2
  have c11 := HS3.out.ma.co.get 11 rfl
  have hc := HS3.out.ma.co.lt
  go_wp2_with fail
  go_ret
  exact ⟨rfl, O1, HS3.out, HG3.out⟩
end
end Go.Proofs.YtdinjlglngpecaaGreatDoor
