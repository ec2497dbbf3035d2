/- Contract of package resolve: Good, of {} and p. No condition. -/
import Derived.Test.YtdinjlglngpecaaGreatDoorSya
namespace Go.Proofs.YtdinjlglngpecaaGreatDoor
open Go.RowKit

section
variable {w w' : World} {l : List Value} {q : Bool}
set_option maxRecDepth 100000 in
set_option maxHeartbeats 3200000 in
theorem good_call {nc : Nat} {oc ot : Option Addr} {cc ct : Nat} (h : PgM w nc oc ot l) (hc : oc = none → cc = 0) (q : Bool) : Calls Tryz.prog 16 #[.agg #[.slice oc nc cc, .slice ot nc ct, .slice none 0 0, .bool q]] w fun e w' => e = .returned (.bool true) ∧ Below w.heap.size w w' := by
  have hba : Below w.heap.size w (w.alloc (.cells #[.slice oc nc cc, .slice ot nc ct, .slice none 0 0, .bool q] 32)) := (Below.refl _ _).alloc (Nat.le_refl _) _
  have HR := Lib.hid (resolve_call (h.below hba) hc q)
  have HM := Lib.hid (h.below hba)
  have HP := Lib.hid (PrB.new w (.slice oc nc cc) (.slice ot nc ct) (.slice none 0 0) q)
  have HB := Lib.hid hba
  clear h hc hba
  go_enter Tryz.func16, Tryz.ntmps16
  go_upto_region 1 with fail
  obtain ⟨W, hW⟩ : ∃ W, w.alloc (.cells #[.slice oc nc cc, .slice ot nc ct, .slice none 0 0, .bool q] 32) = W := ⟨_, rfl⟩
  rw [hW] at HR HM HP HB ⊢
  obtain ⟨c, hcz⟩ : ∃ c, w.heap.size = c := ⟨_, rfl⟩
  rw [hcz] at HP ⊢
  have HCZ := Lib.hid hcz
  clear hW hcz
  have c0 := HP.out.c0
  have c3 := HP.out.c3
  have hl := HP.out.lt
  go_wp2_with fail
  refine HR.out.mono ?_; rintro e w1 ⟨⟨oc2, cc2, ot2, ct2, rfl, hcs⟩, hb⟩
  have HB1 := Lib.hid hb
  have HP1 := Lib.hid (HP.out.below hb)
  have HM1 := Lib.hid (HM.out.below hb)
  have HC := Lib.hid hcs
  clear hcs hb c0 c3 hl HR
  have hba : Below w1.heap.size w1 (w1.alloc (.cells #[.slice oc2 nc cc2, .slice ot2 nc ct2, .slice none 0 0, .bool q] 32)) := (Below.refl _ _).alloc (Nat.le_refl _) _
  have HPN := Lib.hid (PrB.new w1 (.slice oc2 nc cc2) (.slice ot2 nc ct2) (.slice none 0 0) q)
  have HP2 := Lib.hid (HP1.out.below hba)
  have HM2 := Lib.hid (HM1.out.below hba)
  have HB2 := Lib.hid (HB1.out.trans (hba.mono HB1.out.size))
  have HC2 : Hid (nc = 0 ∨ nc = 1 ∧ ∃ g, ot2 = some ⟨g, 0, none⟩ ∧ (w1.alloc (.cells #[.slice oc2 nc cc2, .slice ot2 nc ct2, .slice none 0 0, .bool q] 32)).cell? ⟨g, 0, none⟩ = some (.int .i64 (-1))) := Lib.hid (by
    rcases HC.out with ⟨h, _⟩ | ⟨h, pb, l', g, _, _, _, h2, h3⟩
    · exact .inl h
    · exact .inr ⟨h, g, h2, (hba.cell (p := ⟨g, 0, none⟩) (World.block_lt_of_cell? _ _ h3)).trans h3⟩)
  go_upto_region 2 with fail
  obtain ⟨V, hV⟩ : ∃ V, w1.alloc (.cells #[.slice oc2 nc cc2, .slice ot2 nc ct2, .slice none 0 0, .bool q] 32) = V := ⟨_, rfl⟩
  rw [hV] at HPN HP2 HM2 HB2 HC2 ⊢
  obtain ⟨d, hd⟩ : ∃ d, w1.heap.size = d := ⟨_, rfl⟩
  rw [hd] at HPN ⊢
  clear hV hd hba HC HB1 HP1 HM1 HM HP
  have c1 := HP2.out.c1
  have c2 := HP2.out.c2
  have hl := HP2.out.lt
  have d1 := HPN.out.c1
  have d2 := HPN.out.c2
  have hdl := HPN.out.lt
  have HEI : Hid (Calls Tryz.prog 30 #[.slice ot nc ct, .slice ot2 nc ct2] V fun e w' => e = .returned (.bool true) ∧ Below V.heap.size V w') := Lib.hid (by
    rcases HC2.out with h0 | ⟨h1, g, rfl, hg⟩
    · subst h0; exact eqi_0 _ _ _ _
    · subst h1
      rcases HM2.out with ⟨h, _⟩ | ⟨_, _, nb, no, tb, tn, _, rfl, _, _, h7⟩
      · omega
      · exact eqi_1 h7 hg _ _)
  go_wp2_with fail
  refine HEI.out.mono ?_; rintro e w3 ⟨rfl, hb3⟩
  have e2 := (HP2.out.below hb3).c2
  have f2 := (HPN.out.below hb3).c2
  have el := (HP2.out.below hb3).lt
  have fl := (HPN.out.below hb3).lt
  have HB3 := Lib.hid (HB2.out.trans (hb3.mono HB2.out.size))
  have HES := Lib.hid (eqs_0 (w := w3) none none 0 0)
  clear c1 c2 hl d1 d2 hdl HEI hb3
  go_wp2_with fail
  refine HES.out.mono ?_; rintro e w4 ⟨rfl, hb4⟩
  clear e2 f2 el fl
  go_wp2_with fail
  go_ret
  exact ⟨rfl, (HB.out.trans (HB3.out.mono HB.out.size)).trans (hb4.mono (Nat.le_trans HB.out.size HB3.out.size))⟩
end
end Go.Proofs.YtdinjlglngpecaaGreatDoor
