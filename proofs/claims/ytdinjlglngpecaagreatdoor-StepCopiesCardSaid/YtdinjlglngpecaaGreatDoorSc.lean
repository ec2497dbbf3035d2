/- Contracts of package space: New, none, Put, Pattern. No condition. -/
import Derived.Test.YtdinjlglngpecaaGreatDoorSbe
namespace Go.Proofs.YtdinjlglngpecaaGreatDoor
open Go.RowKit

/-- A space's block: the pattern, however it lies; the hold; room 2^20; made. -/
structure SpcB (w : World) (sb : Nat) (T : List Nat) (pk : Option Nat) : Prop where
  lt : sb < w.heap.size
  c0 : ∃ v, w.cell? ⟨sb, 0, none⟩ = some v ∧ w.ownsRow 0 5 1 v T.length (u8s T) ∧ v.ownBlock = pk
  c1 : ∃ v, w.cell? ⟨sb, 1, none⟩ = some v
  c2 : w.cell? ⟨sb, 2, none⟩ = some (.int .i64 1048576)
  c3 : w.cell? ⟨sb, 3, none⟩ = some (.bool true)
  fz : ∀ o, w.frozen? ⟨sb, o, none⟩ = false
  tl : T.length ≤ 1048576
section
variable {w w' : World} {sb : Nat} {pk : Option Nat} {T X : List Nat} {oa : Option Addr} {cap : Nat}
theorem SpcB.keep (h : SpcB w sb T pk) {S : Nat → Prop} (hk : Kept w w' S) (h1 : ¬ S sb) (h2 : ∀ x, pk = some x → ¬ S x) : SpcB w' sb T pk where
  lt := Nat.lt_of_lt_of_le h.lt hk.size
  c0 := by obtain ⟨v, e1, e2, e3⟩ := h.c0; exact ⟨v, (hk.cell (p := ⟨sb, 0, none⟩) h.lt h1).trans e1, hk.row e2 fun x hx => h2 x (e3.symm.trans hx), e3⟩
  c1 := by obtain ⟨v, e⟩ := h.c1; exact ⟨v, (hk.cell (p := ⟨sb, 1, none⟩) h.lt h1).trans e⟩
  c2 := (hk.cell (p := ⟨sb, 2, none⟩) h.lt h1).trans h.c2
  c3 := (hk.cell (p := ⟨sb, 3, none⟩) h.lt h1).trans h.c3
  fz := fun o => (World.frozen?_of_block (w := w) (a := ⟨sb, o, none⟩) (hk.block sb h.lt h1)).trans (h.fz o)
  tl := h.tl
theorem SpcB.pkLt (h : SpcB w sb T pk) {x : Nat} (hx : pk = some x) : x < w.heap.size := by
  obtain ⟨v, _, e2, e3⟩ := h.c0
  exact (e2.lt x (e3.trans hx)).2
theorem SpcB.below (h : SpcB w sb T pk) (hb : Below w.heap.size w w') : SpcB w' sb T pk :=
  h.keep (Kept.of_below hb (fun k => w.heap.size ≤ k) fun _ e _ => e) (by have := h.lt; omega) fun x hx => by have := h.pkLt hx; omega
set_option maxRecDepth 100000 in
set_option maxHeartbeats 800000 in
theorem snone_call (h : SpcB w sb T pk) : Calls Tryz.prog 61 #[.pointer (some ⟨sb, 0, none⟩)] w fun e w' => e = .returned (.bool false) ∧ w = w' := by
  have c3 := h.c3
  have hl := h.lt
  clear h
  go_enter Tryz.func61, Tryz.ntmps61
  go_wp2_with fail
  go_ret
  exact ⟨rfl, rfl⟩
set_option maxRecDepth 100000 in
set_option maxHeartbeats 800000 in
theorem spattern_call (h : SpcB w sb T pk) : Calls Tryz.prog 29 #[.pointer (some ⟨sb, 0, none⟩)] w fun e w' => (∃ v, e = .returned v ∧ w'.ownsRow w.heap.size 5 1 v T.length (u8s T)) ∧ Below w.heap.size w w' := by
  obtain ⟨v, c0, hv, _⟩ := h.c0
  have hl := h.lt
  have HN := Lib.hid (snone_call h)
  have htx : ∃ o c, v = .slice o T.length c ∧ TxIn w o T ∧ ∀ g p s, o ≠ some ⟨g, p, some s⟩ := by
    rcases hv.2 with ⟨rfl, hn⟩ | ⟨g, cp, cur, rfl, _⟩
    · exact ⟨none, 0, by rw [hn], fun hp => by omega, fun _ _ _ e => by cases e⟩
    · refine ⟨_, cp, rfl, fun hp => ⟨g, 0, rfl, fun j hj => ?_⟩, fun _ _ _ e => by injection e with e; injection e with _ _ e; cases e⟩
      rw [← add_none]
      refine hv.cells (g := g) rfl j _ ?_
      simp [u8s, hj, List.getD_eq_getElem?_getD]
  obtain ⟨o, c, rfl, htx, hs⟩ := htx
  have HC := Lib.hid (clone_call (cap := c) htx (by have := h.tl; omega) hs)
  clear h hv htx hs
  go_enter Tryz.func29, Tryz.ntmps29
  go_wp2_with fail
  refine HN.out.mono ?_; rintro e wq ⟨rfl, rfl⟩
  go_wp2_with fail
  refine HC.out.mono ?_; rintro e w1 ⟨v1, rfl, hv1, hb1⟩
  have HV := Lib.hid hv1
  have HB := Lib.hid hb1
  clear hv1 hb1
  go_wp2_with fail
  go_ret
  exact ⟨⟨_, rfl, HV.out⟩, HB.out⟩
set_option maxRecDepth 100000 in
set_option maxHeartbeats 1600000 in
/-- Put: the pattern is what was handed in; only the space's block is written. -/
theorem sput_call (h : SpcB w sb T pk) (hx : TxIn w oa X) (hs : ∀ g o s, oa ≠ some ⟨g, o, some s⟩) (hl : X.length ≤ 1048576) :
    Calls Tryz.prog 25 #[.pointer (some ⟨sb, 0, none⟩), .slice oa X.length cap] w fun e w' => e = .returned (.int .i64 0) ∧ (∃ pk', SpcB w' sb X pk' ∧ ∀ x, pk' = some x → w.heap.size ≤ x) ∧ Kept w w' (fun k => k = sb) := by
  have HN := Lib.hid (snone_call h)
  have HC := Lib.hid (clone_call (cap := cap) hx (by omega) hs)
  have HS := Lib.hid h
  have HL := Lib.hid hl
  have c2 := h.c2
  have hlt := h.lt
  have hln : ¬ (1048576 : Int) < (X.length : Int) := by omega
  clear h hx hs hl
  go_enter Tryz.func25, Tryz.ntmps25
  go_wp2_with fail
  refine HN.out.mono ?_; rintro e wq ⟨rfl, rfl⟩
  go_wp2_with fail
  refine HC.out.mono ?_; rintro e w1 ⟨v1, rfl, hv1, hb1⟩
  obtain ⟨o1, k1, rfl⟩ : ∃ o k, v1 = .slice o X.length k := by
    rcases hv1.2 with ⟨rfl, hn⟩ | ⟨g, cp, cur, rfl, _⟩
    · exact ⟨none, 0, by rw [hn]⟩
    · exact ⟨_, _, rfl⟩
  have HV := Lib.hid hv1
  have HB := Lib.hid hb1
  have hS1 := HS.out.below hb1
  have HS1 := Lib.hid hS1
  obtain ⟨v0, k0, _, _⟩ := hS1.c0
  have z0 := hS1.fz 0
  have hlt1 := hS1.lt
  clear hv1 hb1 hS1 c2 hlt hln
  go_wp2_with fail
  go_ret
  have hne : ∀ k, (Value.slice o1 X.length k1).ownBlock = some k → k ≠ sb := fun k hk => by have := (HV.out.lt k hk).1; have := HS.out.lt; omega
  have hk : Kept w1 (w1.setCell ⟨sb, 0, none⟩ (.slice o1 X.length k1)) (fun k => k = sb) := Kept.setCell _ _ _
  have hcell : ∀ o, o ≠ 0 → (w1.setCell ⟨sb, 0, none⟩ (.slice o1 X.length k1)).cell? ⟨sb, o, none⟩ = w1.cell? ⟨sb, o, none⟩ := fun o ho => World.cell?_setCell_other _ _ _ _ (by intro e; cases e; exact ho rfl)
  exact ⟨rfl, ⟨_, ⟨Nat.lt_of_lt_of_le HS1.out.lt hk.size, ⟨_, World.cell?_setCell_same _ _ _ k0, ownsRow_mono (hk.row HV.out hne) (Nat.zero_le _), rfl⟩, by obtain ⟨v, h1⟩ := HS1.out.c1; exact ⟨v, (hcell 1 (by decide)).trans h1⟩, (hcell 2 (by decide)).trans HS1.out.c2, (hcell 3 (by decide)).trans HS1.out.c3, fun o => (World.frozen?_setCell _ _ _ _).trans (HS1.out.fz o), HL.out⟩, fun x hx => (HV.out.lt x hx).1⟩,
    (Kept.of_below HB.out _ (fun j hj hj2 => absurd hj2 (by omega))).trans hk fun _ _ e => e⟩
end
end Go.Proofs.YtdinjlglngpecaaGreatDoor
