/- Contract: run, of {} or p, in a mute world of lines. No condition. -/
import Derived.Test.YtdinjlglngpecaaGreatDoorSr
namespace Go.Proofs.YtdinjlglngpecaaGreatDoor
open Go.RowKit

section
variable {w w' : World} {k : CK} {s : CS} {T : List Nat} {pk : Option Nat} {base : Nat} {oa : Option Addr} {m ca n u z i B : Nat} {O : Nat → Option Nat} {A : List Nat} {LL : List Lin}
/-- A row of the world is let go. -/
theorem StS.drop (h : StS w k s T pk base true oa m ca n u z O A) {j : Nat} (hj : j = 21 ∨ j = 22) : ∃ O', StS (w.setCell ⟨k.wb, j, none⟩ (.slice none 0 0)) k s T pk base true oa m ca n u (z + 1) O' A ∧ Grw w (w.setCell ⟨k.wb, j, none⟩ (.slice none 0 0)) (sfoot k O pk) (sfoot k O' pk) := by
  have hi : j ∈ rowsL := by rcases hj with rfl | rfl <;> simp [rowsL]
  have h19 : j ≠ 19 := by omega
  obtain ⟨v, x, cs, e1, e2, e3, _⟩ := h.wl.rows j hi
  have hr := h.wl.setRow h.blt hi (W := w) (v' := .slice none 0 0) (k := 0) (cs := []) (A' := A) e1 (World.grownBy.refl w _) (World.ownsRow_nil w base _ _) (fun x hx => by cases hx) (fun e => absurd e h19) (fun _ => ⟨Nat.zero_le _, rfl⟩)
  exact ⟨_, h.world hr.1 ⟨hr.2.1, hr.2.2⟩⟩
/-- Where the loop of run stands. -/
def RuR (w wr : World) (k : CK) (F : Nat → Prop) (base : Nat) (oa : Option Addr) (m ca i : Nat) (TT : List (List Nat)) : Prop :=
  ∃ s T pk n u z O A, StS wr k s T pk base true oa m ca n u z O A ∧ Grw w wr F (sfoot k O pk) ∧ s.si = false ∧ 0 ≤ s.st ∧ s.st ≤ i ∧ u ≤ i ∧ PhR k TT s T A m n i z
set_option maxRecDepth 100000 in
set_option maxHeartbeats 3200000 in
theorem run_call (h : StS w k s T pk base true oa m ca 0 0 z O []) (hz : z ≤ 8) (hp : s.pl = -1) (hsi : s.si = false) (hst : s.st = 0) (hq : k.nc = 1 ∨ k.q = false) (hm : LL.length = m) (hmz : m ≤ 4294967296) (hB : B ≤ k.wb) (hL : LnB w B oa LL) (hll : ∀ l ∈ LL, l.T.length ≤ 1048576) (htot : ((LL.map (·.T)).flatMap (perL k.nc k.q)).length ≤ 34359738368) :
    Calls Tryz.prog 8 #[.pointer (some ⟨k.mb, 0, none⟩), .pointer (some ⟨k.wb, 0, none⟩), .int .i64 ((3 * m + 3 : Nat) : Int)] w fun e w' => e = .returned (.bool true) ∧ ∃ s' T' pk' u' z' O', StS w' k s' T' pk' base true oa m ca m u' z' O' ((LL.map (·.T)).flatMap (perL k.nc k.q)) ∧ Grw w w' (sfoot k O pk) (sfoot k O' pk') := by
  have hTT : (LL.map (·.T)).length ≤ m := by rw [List.length_map, hm]; exact Nat.le_refl _
  have HT := Lib.hid (outL_all (nc := k.nc) (q := k.q) hTT)
  have H0 : Hid (RuR w w k (sfoot k O pk) base oa m ca 0 (LL.map (·.T))) := Lib.hid ⟨s, T, pk, 0, 0, z, O, [], h, Grw.refl _ _, hsi, by omega, by omega, by omega, .inl ⟨hp, by omega, rfl, by omega, by simpa using hz⟩⟩
  have HB := Lib.hid (show ∀ wr F', Grw w wr (sfoot k O pk) F' → LnB wr B oa LL from fun wr F' hg => hL.below (hg.kept.below (by have := h.wl.lt; omega) fun j hj e => by
    rcases e with e | e | e
    · omega
    · have := (h.wl.footLt e).1; have := h.blt; omega
    · have := h.pq e; omega))
  have HM : Hid (m ≤ 4294967296) := Lib.hid hmz
  have HLM := Lib.hid hm
  have HBW := Lib.hid hB
  have HQ := Lib.hid hq
  have HLL := Lib.hid hll
  have HTO := Lib.hid htot
  obtain ⟨most, hmost⟩ : ∃ most, 3 * m + 3 = most := ⟨_, rfl⟩
  rw [hmost]
  have HMO := Lib.hid hmost
  clear h hz hp hsi hst hq hm hmz hB hL hll htot hmost hTT
  go_enter Tryz.func8, Tryz.ntmps8
  go_wp2_with fail
  go_loopg [7] (most + 1) (fun gk iv wr => ∃ i : Nat, iv = .int .i64 (i : Nat) ∧ gk + i = most + 1 ∧ i ≤ most ∧ RuR w wr k (sfoot k O pk) base oa m ca i (LL.map (·.T)))
  case atStart => exact ⟨0, rfl, by omega, by omega, H0.out⟩
  case round =>
  obtain ⟨i, rfl, hgk, him, s1, T1, pk1, n1, u1, z1, O1, A1, hs, hg, hsi, hs0, hs1, hui, hph⟩ := hrel
  have HGK := Lib.hid hgk
  have HIM := Lib.hid him
  have HS := Lib.hid hs
  have HG := Lib.hid hg
  have HPH := Lib.hid hph
  have HAT := Lib.hid (at_call hs.ma)
  by_cases hpl : s1.pl = -2
  · have HE : Hid (n1 = m ∧ A1 = outL k.nc k.q (LL.map (·.T)) m) := Lib.hid (by
      rcases hph with ⟨e, _⟩ | ⟨e, _⟩ | ⟨e, _⟩ | ⟨_, e⟩
      · omega
      · omega
      · omega
      · exact e)
    rw [hpl] at HAT
    clear hgk him hs hg hsi hs0 hs1 hui hph hpl
    by_cases hi : i < most
    · have hi' : (i : Int) < (most : Int) := by omega
      go_wp2_with fail
      refine HAT.out.mono ?_; rintro e wq ⟨rfl, hwq⟩
      subst hwq
      go_wp2_with fail
      refine HAT.out.mono ?_; rintro e wq ⟨rfl, hwq⟩
      subst hwq
      go_wp2_with fail
      go_ret
      obtain ⟨rfl, rfl⟩ := HE.out
      exact ⟨rfl, s1, T1, pk1, u1, z1, O1, HT.out ▸ HS.out, HG.out⟩
    · have hi' : ¬ (i : Int) < (most : Int) := by omega
      go_wp2_with fail
      refine HAT.out.mono ?_; rintro e wq ⟨rfl, hwq⟩
      subst hwq
      go_wp2_with fail
      go_ret
      obtain ⟨rfl, rfl⟩ := HE.out
      exact ⟨rfl, s1, T1, pk1, u1, z1, O1, HT.out ▸ HS.out, HG.out⟩
  · have hi : i < 3 * m + 2 := by
      rcases hph with ⟨_, _, _, e, _⟩ | ⟨_, _, _, _, _, e, _⟩ | ⟨_, _, _, _, _, _, e, _⟩ | ⟨e, _⟩
      · omega
      · omega
      · omega
      · exact absurd e hpl
    have HI := Lib.hid hi
    have hi' : (i : Int) < (most : Int) := by have := HMO.out; omega
    have HST := Lib.hid (step_ph hs hph hpl hsi ⟨hs0, hs1⟩ hui HQ.out HLM.out HM.out HBW.out (HB.out _ _ hg) HLL.out HTO.out)
    obtain ⟨pl1, hpl1⟩ : ∃ x, s1.pl = x := ⟨_, rfl⟩
    rw [hpl1] at HAT hpl
    have hpq : (pl1 != -2) = true := by simpa using hpl
    clear hgk him hs hg hsi hs0 hs1 hui hph hpl hi hpl1
    go_wp2_with fail
    refine HAT.out.mono ?_; rintro e wq ⟨rfl, hwq⟩
    subst hwq
    go_wp2_with fail
    refine HST.out.mono ?_; rintro e w2 ⟨rfl, s2, T2, pk2, n2, u2, z2, O2, A2, hs, hg, hsi, hs0, hs1, hui, hph⟩
    obtain ⟨O3, hs3, hg3⟩ := hs.drop (j := 21) (.inl rfl)
    obtain ⟨O4, hs4, hg4⟩ := hs3.drop (j := 22) (.inr rfl)
    obtain ⟨v21, _, _, c21, _⟩ := hs.wl.rows 21 (by simp [rowsL])
    have z21 := hs.wl.fz 21
    have hlt := hs.wl.lt
    have HS3 := Lib.hid hs3
    have HR : Hid (RuR w ((w2.setCell ⟨k.wb, 21, none⟩ (.slice none 0 0)).setCell ⟨k.wb, 22, none⟩ (.slice none 0 0)) k (sfoot k O pk) base oa m ca (i + 1) (LL.map (·.T))) := Lib.hid ⟨s2, T2, pk2, n2, u2, z2 + 1 + 1, O4, A2, hs4, ((HG.out.trans hg).trans hg3).trans hg4, hsi, hs0, by omega, hui, hph⟩
    clear hs hg hsi hs0 hs1 hui hph hs3 hg3 hs4 hg4 HAT HST hpq
    go_upto_region 6 with fail
    obtain ⟨V, hV⟩ : ∃ V, w2.setCell ⟨k.wb, 21, none⟩ (.slice none 0 0) = V := ⟨_, rfl⟩
    rw [hV] at HR HS3 ⊢
    clear hV c21 z21 hlt
    obtain ⟨v22, _, _, c22, _⟩ := HS3.out.wl.rows 22 (by simp [rowsL])
    have z22 := HS3.out.wl.fz 22
    have hlt := HS3.out.wl.lt
    have hib : (i : Int) ≤ 4611686018427387903 := by have := HI.out; have := HM.out; omega
    go_wp2_with fail
    go_roundg (gk - 1)
    case measure => have := HGK.out; have := HI.out; have := HMO.out; omega
    case rel => exact ⟨i + 1, by go_num, by have := HGK.out; have := HI.out; have := HMO.out; omega, by have := HI.out; have := HMO.out; omega, HR.out⟩
end
end Go.Proofs.YtdinjlglngpecaaGreatDoor
