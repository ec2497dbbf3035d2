/- Contract of package resolve: Good, of {} and p. No condition. -/
import Derived.Test.YtdinjlglngpecaaGreatDoorSz
namespace Go.Proofs.YtdinjlglngpecaaGreatDoor
open Go.RowKit

section
variable {w w' : World} {nb no cap : Nat} {l : List Value} {q : Bool}
set_option maxRecDepth 100000 in
set_option maxHeartbeats 800000 in
theorem eqi_0 (o1 o2 : Option Addr) (c1 c2 : Nat) : Calls Tryz.prog 30 #[.slice o1 0 c1, .slice o2 0 c2] w fun e w' => e = .returned (.bool true) ∧ Below w.heap.size w w' := by
  go_enter Tryz.func30, Tryz.ntmps30
  go_wp2_with fail
  go_loopg [13] 1 (fun gk kv wr => kv = .int .i64 0 ∧ wr = w)
  case atStart => exact ⟨rfl, rfl⟩
  case round =>
  obtain ⟨rfl, rfl⟩ := hrel
  go_wp2_with fail
  go_ret
  exact ⟨rfl, Below.refl _ _⟩
set_option maxRecDepth 100000 in
set_option maxHeartbeats 800000 in
theorem eqs_0 (o1 o2 : Option Addr) (c1 c2 : Nat) : Calls Tryz.prog 31 #[.slice o1 0 c1, .slice o2 0 c2] w fun e w' => e = .returned (.bool true) ∧ Below w.heap.size w w' := by
  go_enter Tryz.func31, Tryz.ntmps31
  go_wp2_with fail
  go_loopg [13] 1 (fun gk kv wr => kv = .int .i64 0 ∧ wr = w)
  case atStart => exact ⟨rfl, rfl⟩
  case round =>
  obtain ⟨rfl, rfl⟩ := hrel
  go_wp2_with fail
  go_ret
  exact ⟨rfl, Below.refl _ _⟩
set_option maxRecDepth 100000 in
set_option maxHeartbeats 1600000 in
theorem eqi_1 {b1 n1 b2 n2 : Nat} {x : Int} (h1 : w.cell? ⟨b1, n1, none⟩ = some (.int .i64 x)) (h2 : w.cell? ⟨b2, n2, none⟩ = some (.int .i64 x)) (c1 c2 : Nat) : Calls Tryz.prog 30 #[.slice (some ⟨b1, n1, none⟩) 1 c1, .slice (some ⟨b2, n2, none⟩) 1 c2] w fun e w' => e = .returned (.bool true) ∧ Below w.heap.size w w' := by
  have H1 := Lib.hid h1
  have H2 := Lib.hid h2
  clear h1 h2
  go_enter Tryz.func30, Tryz.ntmps30
  go_wp2_with fail
  go_loopg [13] 2 (fun gk kv wr => ∃ j : Nat, kv = .int .i64 (j : Nat) ∧ gk = 2 - j ∧ j ≤ 1 ∧ Below w.heap.size w wr)
  case atStart => exact ⟨0, rfl, rfl, by decide, Below.refl _ _⟩
  case round =>
  obtain ⟨j, rfl, hgk, hj, hb⟩ := hrel
  have HB := Lib.hid hb
  have HG := Lib.hid hgk
  by_cases h0 : j = 0
  · subst h0
    have k1 := (hb.cell (p := ⟨b1, n1, none⟩) (World.block_lt_of_cell? _ _ H1.out)).trans H1.out
    have k2 := (hb.cell (p := ⟨b2, n2, none⟩) (World.block_lt_of_cell? _ _ H2.out)).trans H2.out
    have l1 : b1 < wr.heap.size := World.block_lt_of_cell? _ _ k1
    have l2 : b2 < wr.heap.size := World.block_lt_of_cell? _ _ k2
    have e1 : (x != x) = false := by simp
    clear hb hgk
    go_upto_region 6 with fail
    refine wp_region_segs (X := none) 9 [] [0, 1, 2, 3, 4, 5, 6, 7, 8] (by kernel_rfl) (by kernel_rfl) rfl (fun _ _ _ _ _ h => h) ?_
    simp only [wpSegs, pickSegs_nil, pickOps_nil, pickOps_cons, List.getD_cons_zero, List.getD_cons_succ, List.drop_succ_cons, List.drop_nil]
    repeat (go_big_quiet_step (fail))
    refine wpQuiet_nil ?_
    go_wp2_with fail
    go_roundg 1
    case measure => have := HG.out; omega
    case rel => exact ⟨1, rfl, rfl, by decide, HB.out.drew⟩
  obtain rfl : j = 1 := by omega
  clear hb hgk
  go_wp2_with fail
  go_ret
  exact ⟨rfl, HB.out⟩
/-- A program {} or p, in memory. -/
def PgM (w : World) (nc : Nat) (oc ot : Option Addr) (l : List Value) : Prop :=
  (nc = 0 ∧ oc = none ∧ ot = none) ∨ (nc = 1 ∧ PcV l ∧ ∃ nb no tb tn, oc = some ⟨nb, no, none⟩ ∧ ot = some ⟨tb, tn, none⟩ ∧ w.rangeAt nb no l ∧ nb < w.heap.size ∧ w.cell? ⟨tb, tn, none⟩ = some (.int .i64 (-1)))
theorem PgM.below {nc : Nat} {oc ot : Option Addr} (h : PgM w nc oc ot l) (hb : Below w.heap.size w w') : PgM w' nc oc ot l := by
  rcases h with h | ⟨h1, h2, nb, no, tb, tn, h3, h4, h5, h6, h7⟩
  · exact .inl h
  · exact .inr ⟨h1, h2, nb, no, tb, tn, h3, h4, fun j v hv => (hb.cell (p := ⟨nb, no + j, none⟩) h6).trans (h5 j v hv), Nat.lt_of_lt_of_le h6 hb.size, (hb.cell (p := ⟨tb, tn, none⟩) (World.block_lt_of_cell? _ _ h7)).trans h7⟩
/-- What Resolve hands back of {} or p. -/
def ReR (nc : Nat) (q : Bool) (base : Nat) (e : Ending) (w' : World) : Prop :=
  ∃ oc cc ot ct, e = .returned (.tuple #[.agg #[.slice oc nc cc, .slice ot nc ct, .slice none 0 0, .bool q], .int .i64 0, .int .i64 0]) ∧ (nc = 0 ∧ oc = none ∧ cc = 0 ∨ nc = 1 ∧ ∃ pb l' g, oc = some ⟨pb, 0, none⟩ ∧ CmP w' pb l' ∧ base ≤ pb ∧ ot = some ⟨g, 0, none⟩ ∧ w'.cell? ⟨g, 0, none⟩ = some (.int .i64 (-1)))
theorem resolve_call {nc : Nat} {oc ot : Option Addr} {cc : Nat} (h : PgM w nc oc ot l) (hc : oc = none → cc = 0) (q : Bool) : Calls Tryz.prog 18 #[.slice oc nc cc, .bool q] w fun e w' => ReR nc q w.heap.size e w' ∧ Below w.heap.size w w' := by
  rcases h with ⟨rfl, rfl, rfl⟩ | ⟨rfl, h2, nb, no, tb, tn, rfl, rfl, h5, h6, h7⟩
  · obtain rfl := hc rfl
    refine (resolve_0 q).mono ?_
    rintro e w' ⟨⟨ot, ct, rfl⟩, hb⟩
    exact ⟨⟨none, 0, ot, ct, rfl, .inl ⟨rfl, rfl, rfl⟩⟩, hb⟩
  · refine (resolve_1 (cap := cc) h2 h5 h6 q).mono ?_
    rintro e w' ⟨⟨pb, c2, g, l', rfl, h1, h3, h4⟩, hb⟩
    exact ⟨⟨_, c2, _, 1, rfl, .inr ⟨rfl, pb, l', g, rfl, h1, h3, rfl, h4⟩⟩, hb⟩
end
end Go.Proofs.YtdinjlglngpecaaGreatDoor
