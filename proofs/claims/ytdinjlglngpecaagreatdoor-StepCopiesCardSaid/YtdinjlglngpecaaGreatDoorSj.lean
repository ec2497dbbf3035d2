/- A machine beside its world; contracts: At, row, flush, goTo. No condition. -/
import Derived.Test.YtdinjlglngpecaaGreatDoorSi
namespace Go.Proofs.YtdinjlglngpecaaGreatDoor
open Go.RowKit

theorem mOut (n : Nat) (v : Value) (w : World) : (Go.method (n + 1) 35 v "Out").run Tryz.prog w = .ok (217, v) w := by kernel_rfl
theorem mNext (n : Nat) (v : Value) (w : World) : (Go.method (n + 1) 35 v "Next").run Tryz.prog w = .ok (216, v) w := by kernel_rfl
theorem mLine (n : Nat) (v : Value) (w : World) : (Go.method (n + 1) 35 v "Line").run Tryz.prog w = .ok (215, v) w := by kernel_rfl
theorem mLast (n : Nat) (v : Value) (w : World) : (Go.method (n + 1) 35 v "Last").run Tryz.prog w = .ok (214, v) w := by kernel_rfl
/-- What a call leaves: all but a footprint, which grows by new blocks alone. -/
structure Grw (w w' : World) (F F' : Nat → Prop) : Prop where
  kept : Kept w w' F
  grow : ∀ x, F' x → F x ∨ w.heap.size ≤ x
def sfoot (k : CK) (O : Nat → Option Nat) (pk : Option Nat) (x : Nat) : Prop := x = k.wb ∨ foot O x ∨ mfoot k pk x
/-- The machine and its world. -/
structure StS (w : World) (k : CK) (s : CS) (T : List Nat) (pk : Option Nat) (base : Nat) (mu : Bool) (oa : Option Addr) (m ca n u z : Nat) (O : Nat → Option Nat) (A : List Nat) : Prop where
  ma : MaS w k s T pk
  wl : WlM w k.wb base mu oa m ca n u z O A
  blt : k.wb < base
  bq : base ≤ k.qb
  dj : ∀ x, foot O x → ¬ mfoot k pk x
section
variable {w w' w2 : World} {F F1 F2 : Nat → Prop}
theorem Grw.refl (w : World) (F : Nat → Prop) : Grw w w F F := ⟨Kept.refl _ _, fun _ => .inl⟩
theorem Grw.trans (h : Grw w w' F F1) (h2 : Grw w' w2 F1 F2) : Grw w w2 F F2 :=
  ⟨h.kept.trans h2.kept fun x hx e => (h.grow x e).elim id fun q => by omega, fun x hx => (h2.grow x hx).elim (fun e => h.grow x e) fun q => .inr (Nat.le_trans h.kept.size q)⟩
theorem Grw.below (h : Grw w w' F F1) (hb : Below w'.heap.size w' w2) : Grw w w2 F F1 :=
  ⟨h.kept.trans (Kept.of_below hb (fun _ => False) fun j hj hj2 => absurd hj2 (by omega)) fun _ _ e => e.elim, h.grow⟩
variable {k : CK} {s s' : CS} {T T' X : List Nat} {pk pk' : Option Nat} {base : Nat} {mu : Bool} {oa : Option Addr} {m ca n n' u u' z z' : Nat} {O O' : Nat → Option Nat} {A A' : List Nat}
theorem StS.bw (h : StS w k s T pk base mu oa m ca n u z O A) : base ≤ w.heap.size := by
  obtain ⟨o1, o2, o3, o4⟩ := h.ma.or1
  have := h.bq; have := h.ma.mlt
  omega
theorem StS.pq (h : StS w k s T pk base mu oa m ca n u z O A) {x : Nat} (hx : mfoot k pk x) : k.wb < x := by
  obtain ⟨o1, o2, o3, o4⟩ := h.ma.or1
  have := h.bq; have := h.blt
  rcases hx with ⟨e, _⟩ | e
  · omega
  · have := h.ma.opk x e; omega
/-- The world has gone on. -/
theorem StS.world (h : StS w k s T pk base mu oa m ca n u z O A) (hw : WlM w' k.wb base mu oa m ca n' u' z' O' A') (ha : Adds w w' k.wb O O') : StS w' k s T pk base mu oa m ca n' u' z' O' A' ∧ Grw w w' (sfoot k O pk) (sfoot k O' pk) := by
  refine ⟨⟨h.ma.keep ha.kept fun x hx e q => e.elim (fun e => by have := h.pq q; omega) fun e => h.dj x e q, hw, h.blt, h.bq, fun x hx q => (ha.grow x hx).elim (fun e => h.dj x e q) fun e => by have := h.ma.pkLt q; omega⟩, ha.kept.mono fun x _ e => e.elim .inl fun e => .inr (.inl e), fun x hx => ?_⟩
  rcases hx with e | e | e
  · exact .inl (.inl e)
  · exact (ha.grow x e).imp (fun e => .inr (.inl e)) id
  · exact .inl (.inr (.inr e))
/-- The machine has gone on. -/
theorem StS.mach (h : StS w k s T pk base mu oa m ca n u z O A) (hm : MaS w' k s' T' pk') (hk : Kept w w' (mfoot k pk)) (hp : pk' = pk ∨ ∀ x, pk' = some x → w.heap.size ≤ x) : StS w' k s' T' pk' base mu oa m ca n u z O A ∧ Grw w w' (sfoot k O pk) (sfoot k O pk') := by
  have hq : ∀ x, mfoot k pk' x → mfoot k pk x ∨ w.heap.size ≤ x := fun x e => by
    rcases e with e | e
    · exact .inl (.inl e)
    · rcases hp with q | q
      · exact .inl (.inr (q ▸ e))
      · exact .inr (q x e)
  refine ⟨⟨hm, h.wl.keep hk fun x hx e => ⟨by have := h.pq e; omega, fun q => h.dj x q e⟩, h.blt, h.bq, fun x hx e => (hq x e).elim (h.dj x hx) fun q => by have := (h.wl.footLt hx).2; omega⟩, hk.mono fun x _ e => .inr (.inr e), fun x hx => ?_⟩
  rcases hx with e | e | e
  · exact .inl (.inl e)
  · exact .inl (.inr (.inl e))
  · exact (hq x e).imp (fun e => .inr (.inr e)) id
theorem StS.below (h : StS w k s T pk base mu oa m ca n u z O A) (hb : Below w.heap.size w w') : StS w' k s T pk base mu oa m ca n u z O A := ⟨h.ma.below hb, h.wl.below hb, h.blt, h.bq, h.dj⟩
set_option maxRecDepth 100000 in
set_option maxHeartbeats 800000 in
theorem at_call (h : MaS w k s T pk) : Calls Tryz.prog 12 #[.pointer (some ⟨k.mb, 0, none⟩)] w fun e w' => e = .returned (.int .i64 s.pl) ∧ w = w' := by
  have m0 := h.m0
  have hl := h.mlt
  have c := h.co.get 8 rfl
  have hc := h.co.lt
  clear h
  go_enter Tryz.func12, Tryz.ntmps12
  go_wp2_with fail
  go_ret
  exact ⟨rfl, rfl⟩
set_option maxRecDepth 100000 in
set_option maxHeartbeats 3200000 in
theorem row_call (h : StS w k s T pk base mu oa m ca n u z O A) (hz : z ≤ 549755813888) (hu : u ≤ 549755813888) {ox : Option Addr} {cx : Nat} (hX : Src w (.slice ox X.length cx) X.length (u8s X)) (hl : X.length ≤ 1048576) (hA : A.length ≤ 274877906944) :
    Calls Tryz.prog 63 #[.pointer (some ⟨k.cb, 0, none⟩), .slice ox X.length cx] w fun e w' => e = .returned (.int .i64 0) ∧ ∃ O', StS w' k s T pk base mu oa m ca n (u + 1) (z + (X.length + 8)) O' (A ++ (X ++ [10])) ∧ Grw w w' (sfoot k O pk) (sfoot k O' pk) := by
  have H := Lib.hid (h.below (Below.refl _ _).drew)
  have hL := sline_call (w := w.drew) (hX.below (Below.refl _ _).drew) hl
  obtain ⟨Y, hY⟩ : ∃ Y, X ++ [10] = Y := ⟨_, rfl⟩
  have hyl : Y.length = X.length + 1 := by rw [← hY]; simp
  have HYL : Hid (Y.length = X.length + 1 ∧ Y.length ≤ 1048577) := Lib.hid (by omega)
  rw [hY] at hL ⊢
  have HL := Lib.hid hL
  have HZ := Lib.hid hz
  have HU := Lib.hid hu
  have HA := Lib.hid hA
  have c5 := h.ma.co.get 3 rfl
  have hc := h.ma.co.lt
  clear h hX hz hu hl hA hL hY hyl
  go_enter Tryz.func63, Tryz.ntmps63
  go_upto_region 1 with fail
  refine wp_region_segs (X := none) 8 [([0, 1, 2, 3, 4, 6, 7], 5)] [] (by kernel_rfl) (by kernel_rfl) rfl (fun _ _ _ _ _ h => h) ?_
  simp only [wpSegs, pickSegs_nil, pickSegs_cons, pickOps_nil, pickOps_cons, List.getD_cons_zero, List.getD_cons_succ, List.drop_succ_cons, List.drop_zero]
  repeat (go_big_quiet_step (fail))
  refine wpQuiet_nil ?_
  go_wp2_with fail
  refine HL.out.mono ?_; rintro e w1 ⟨⟨v, rfl, hv⟩, hb⟩
  obtain ⟨o1, k1, rfl⟩ := own_form hv
  have HV := Lib.hid hv
  have HB := Lib.hid hb
  have H1 := Lib.hid (H.out.below hb)
  dsimp only
  go_wp2_with fail
  refine ⟨Keeps.of_below hb, ?_⟩
  repeat (go_big_quiet_step (fail))
  refine wpQuiet_nil ?_
  clear hv hb
  have HO := Lib.hid (out_call H1.out.wl H1.out.blt H1.out.bw HZ.out HU.out (X := Y) HV.out (fun x hx => by
    have h1 := (HV.out.lt x hx).1
    exact ⟨fun e => by have := H.out.wl.lt; omega, fun e => by have := (H.out.wl.footLt e).2; omega⟩) (by have := HYL.out.2; have := HA.out; omega))
  have hm := mOut
  go_wp2_with fail
  refine HO.out.mono ?_; rintro e w2 ⟨rfl, O2, hw, ha⟩
  have HS := Lib.hid (H1.out.world (hw.mono (s' := z + (X.length + 8)) (by have := HYL.out.1; omega)) ha)
  have HG := Lib.hid (((Grw.refl w (sfoot k O pk)).below (Below.refl _ _).drew).below HB.out)
  clear hw ha HO hm
  go_wp2_with fail
  go_ret
  exact ⟨rfl, O2, HS.out.1, HG.out.trans HS.out.2⟩
end
end Go.Proofs.YtdinjlglngpecaaGreatDoor
