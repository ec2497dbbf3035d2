/- Contract of package step: New, of {} and p. No condition. -/
import Derived.Test.YtdinjlglngpecaaGreatDoorSyc
import Derived.Test.YtdinjlglngpecaaGreatDoorSu
import Derived.Deep.LoopGhost
namespace Go.Proofs.YtdinjlglngpecaaGreatDoor
open Go.RowKit

/-- The core, anew. -/
def newL (wb qb : Nat) : List (Nat × Value) := [(0, .pointer none), (1, .slice none 0 0), (2, .slice none 0 0), (3, .slice none 0 0), (4, .bool false), (5, .iface 35 (.pointer (some ⟨wb, 0, none⟩))), (8, .pointer (some ⟨qb, 0, none⟩)), (9, .pointer none), (122, .nilFunc),
  (266, .bool false), (267, .int .i64 (-1)), (268, .int .i64 0), (269, .int .i64 0), (270, .int .i64 0), (271, .bool false), (272, .bool false), (273, .bool false)]
theorem newL_fst (wb qb : Nat) : (newL wb qb).map (·.1) = [0, 1, 2, 3, 4, 5, 8, 9, 122, 266, 267, 268, 269, 270, 271, 272, 273] := rfl
theorem core_zero : ∀ p ∈ newL 0 0, p.1 ≠ 5 → p.1 ≠ 8 → p.1 ≠ 267 → Tryz.zeroCells82[p.1]? = some p.2 := by
  intro p hp
  simp only [newL, List.mem_cons, List.not_mem_nil, or_false] at hp
  rcases hp with rfl | rfl | rfl | rfl | rfl | rfl | rfl | rfl | rfl | rfl | rfl | rfl | rfl | rfl | rfl | rfl | rfl <;> intro h1 h2 h3 <;> first | exact absurd rfl h1 | exact absurd rfl h2 | exact absurd rfl h3 | kernel_rfl
theorem core_size : Tryz.zeroCells82.size = 274 := by kernel_rfl
theorem new_core {wb qb mp : Nat} {Z : Array Value} (hz : ∀ p ∈ newL 0 0, p.1 ≠ 5 → p.1 ≠ 8 → p.1 ≠ 267 → Z[p.1]? = some p.2) (hs : Z.size = 274) :
    ∀ p ∈ newL wb qb, ((((Z.setIfInBounds 5 (.iface 35 (.pointer (some ⟨wb, 0, none⟩)))).setIfInBounds 6 (.map (some mp))).setIfInBounds 8 (.pointer (some ⟨qb, 0, none⟩))).setIfInBounds 267 (.int .i64 (-1)))[p.1]? = some p.2 := by
  intro p hp
  by_cases h5 : p.1 = 5
  · have : p = (5, .iface 35 (.pointer (some ⟨wb, 0, none⟩))) := by
      simp only [newL, List.mem_cons, List.not_mem_nil, or_false] at hp
      rcases hp with rfl | rfl | rfl | rfl | rfl | rfl | rfl | rfl | rfl | rfl | rfl | rfl | rfl | rfl | rfl | rfl | rfl <;> first | rfl | (simp only at h5; omega)
    subst this
    simp [hs]
  by_cases h8 : p.1 = 8
  · have : p = (8, .pointer (some ⟨qb, 0, none⟩)) := by
      simp only [newL, List.mem_cons, List.not_mem_nil, or_false] at hp
      rcases hp with rfl | rfl | rfl | rfl | rfl | rfl | rfl | rfl | rfl | rfl | rfl | rfl | rfl | rfl | rfl | rfl | rfl <;> first | rfl | (simp only at h8; omega)
    subst this
    simp [hs]
  by_cases h7 : p.1 = 267
  · have : p = (267, .int .i64 (-1)) := by
      simp only [newL, List.mem_cons, List.not_mem_nil, or_false] at hp
      rcases hp with rfl | rfl | rfl | rfl | rfl | rfl | rfl | rfl | rfl | rfl | rfl | rfl | rfl | rfl | rfl | rfl | rfl <;> first | rfl | (simp only at h7; omega)
    subst this
    simp [hs]
  have h6 : p.1 ≠ 6 := by
    simp only [newL, List.mem_cons, List.not_mem_nil, or_false] at hp
    rcases hp with rfl | rfl | rfl | rfl | rfl | rfl | rfl | rfl | rfl | rfl | rfl | rfl | rfl | rfl | rfl | rfl | rfl <;> (simp only; decide)
  rw [Array.getElem?_setIfInBounds_ne (Ne.symm h7), Array.getElem?_setIfInBounds_ne (Ne.symm h8), Array.getElem?_setIfInBounds_ne (Ne.symm h6), Array.getElem?_setIfInBounds_ne (Ne.symm h5)]
  refine hz p ?_ h5 h8 h7
  simp only [newL, List.mem_cons, List.not_mem_nil, or_false] at hp ⊢
  rcases hp with h | h | h | h | h | h | h | h | h | h | h | h | h | h | h | h | h
  · simp [h]
  · simp [h]
  · simp [h]
  · simp [h]
  · simp [h]
  · rw [h] at h5; exact absurd rfl h5
  · rw [h] at h8; exact absurd rfl h8
  · simp [h]
  · simp [h]
  · simp [h]
  · rw [h] at h7; exact absurd rfl h7
  · simp [h]
  · simp [h]
  · simp [h]
  · simp [h]
  · simp [h]
  · simp [h]
section
variable {w w' : World} {l : List Value} {q : Bool}
theorem TbP.putK {cb : Nat} {L : List (Nat × Value)} {K : List Nat} (h : TbP w cb L) (hL : L.map (·.1) = K) (hK : K.Nodup) (j : Nat) {o : Nat} {u : Value} (e : L[j]? = some (o, u)) (v : Value) : TbP (w.setCell ⟨cb, o, none⟩ v) cb (L.set j (o, v)) ∧ (L.set j (o, v)).map (·.1) = K := by
  refine ⟨h.put (hL ▸ hK) j e v, ?_⟩
  rw [List.map_set, ← hL]
  apply List.ext_getElem?
  intro i
  by_cases hi : j = i
  · subst hi
    rw [List.getElem?_set_self (by rw [List.length_map]; exact (List.getElem?_eq_some_iff.1 e).1), List.getElem?_map, e]
    rfl
  · rw [List.getElem?_set_ne hi]
/-- Where New stands. -/
structure NeS (w : World) (cb sb qb gb nc : Nat) (oc : Option Addr) (pb : Nat) (L : List (Nat × Value)) : Prop where
  tb : TbP w cb L
  sp : SpcB w sb [] none
  qu : QuE w qb
  gl : gb < w.heap.size
  ga : ∃ og cg, w.cell? ⟨gb, 0, none⟩ = some (.slice og nc cg)
  cm : nc = 0 ∨ nc = 1 ∧ oc = some ⟨pb, 0, none⟩ ∧ cb < pb ∧ pb < sb ∧ ∃ l, CmP w pb l
  o1 : qb < cb
  o2 : cb < sb
  o3 : sb < gb
theorem NeS.tbl {cb sb qb gb nc : Nat} {oc : Option Addr} {pb : Nat} {L L' : List (Nat × Value)} (h : NeS w cb sb qb gb nc oc pb L) (hb : ∀ k, k < w.heap.size → k ≠ cb → w'.heap[k]? = w.heap[k]?) (hs : w.heap.size ≤ w'.heap.size) (hk : Kept w w' (fun x => x = cb)) (ht : TbP w' cb L') : NeS w' cb sb qb gb nc oc pb L' := by
  have h1 := h.o1
  have h2 := h.o2
  have h3 := h.o3
  have h4 := h.gl
  refine ⟨ht, h.sp.keep hk (by omega) (fun x hx => by cases hx), ⟨by omega, (World.cell?_of_block (a := ⟨qb, 0, none⟩) (hb qb (by omega) (by omega))).trans h.qu.c0, (World.cell?_of_block (a := ⟨qb, 1, none⟩) (hb qb (by omega) (by omega))).trans h.qu.c1, fun o => (World.frozen?_of_block (w := w) (a := ⟨qb, o, none⟩) (hb qb (by omega) (by omega))).trans (h.qu.fz o)⟩, by omega, ?_, ?_, h1, h2, h3⟩
  · obtain ⟨og, cg, e⟩ := h.ga
    exact ⟨og, cg, (World.cell?_of_block (a := ⟨gb, 0, none⟩) (hb gb (by omega) (by omega))).trans e⟩
  · rcases h.cm with e | ⟨e1, e2, e3, e4, l, e5⟩
    · exact .inl e
    · exact .inr ⟨e1, e2, e3, e4, l, e5.same (hb pb (by omega) (by omega)) hs⟩
theorem NeS.below {cb sb qb gb nc : Nat} {oc : Option Addr} {pb : Nat} {L : List (Nat × Value)} (h : NeS w cb sb qb gb nc oc pb L) (hb : Below w.heap.size w w') : NeS w' cb sb qb gb nc oc pb L :=
  h.tbl (fun k hk _ => hb.block k hk) hb.size (Kept.of_below hb _ fun j hj hj2 => absurd hj2 (by omega)) (h.tb.same (hb.block cb h.tb.bk.lt) hb.size)
set_option maxRecDepth 100000 in
set_option maxHeartbeats 6400000 in
theorem snew_call {nc : Nat} {oc ot : Option Addr} {cc ct : Nat} (h : PgM w nc oc ot l) (hc : oc = none → cc = 0) (q : Bool) (wb : Nat) : Calls Tryz.prog 7 #[.agg #[.slice oc nc cc, .slice ot nc ct, .slice none 0 0, .bool q], .iface 35 (.pointer (some ⟨wb, 0, none⟩))] w fun e w' =>
    (∃ k, e = .returned (.tuple #[.pointer (some ⟨k.mb, 0, none⟩), .int .i64 0]) ∧ MaS w' k ⟨false, -1, 0, 0, 0, false⟩ [] none ∧ k.wb = wb ∧ k.nc = nc ∧ k.q = q ∧ w.heap.size ≤ k.qb) ∧ Below w.heap.size w w' := by
  have hba : Below w.heap.size w (w.alloc (.cells #[.slice oc nc cc, .slice ot nc ct, .slice none 0 0, .bool q] 32)) := (Below.refl _ _).alloc (Nat.le_refl _) _
  have HR := Lib.hid (good_call (ct := ct) (h.below hba) hc q)
  have HM := Lib.hid (h.below hba)
  have HCN := Lib.hid hc
  have HP := Lib.hid (PrB.new w (.slice oc nc cc) (.slice ot nc ct) (.slice none 0 0) q)
  have HB := Lib.hid hba
  clear h hc hba
  go_enter Tryz.func7, Tryz.ntmps7
  go_upto_region 1 with fail
  obtain ⟨W, hW⟩ : ∃ W, w.alloc (.cells #[.slice oc nc cc, .slice ot nc ct, .slice none 0 0, .bool q] 32) = W := ⟨_, rfl⟩
  rw [hW] at HR HM HP HB ⊢
  obtain ⟨c, hcz⟩ : ∃ c, w.heap.size = c := ⟨_, rfl⟩
  rw [hcz] at HP HB ⊢
  have HCZ := Lib.hid hcz
  clear hW hcz
  have c0 := HP.out.c0
  have c1 := HP.out.c1
  have c2 := HP.out.c2
  have c3 := HP.out.c3
  have hl := HP.out.lt
  go_wp2_with fail
  refine HR.out.mono ?_; rintro e w1 ⟨rfl, hb⟩
  have HB1 := Lib.hid (HB.out.trans (hb.mono (by omega)))
  have HP1 := Lib.hid (HP.out.below hb)
  have HM1 := Lib.hid (HM.out.below hb)
  clear hb c0 c1 c2 c3 hl HR HB HP HM
  have HQN : ∀ W : World, Hid _ := fun W => Lib.hid (qnew_call W)
  go_wp2_with (refine wpList_mkm rfl _ rfl ?_)
  refine (HQN _).out.mono ?_; rintro e w2 ⟨rfl, hq2, hb2⟩
  have hbm : Below w1.heap.size w1 (w1.alloc (.map #[] 0)) := (Below.refl _ _).alloc (Nat.le_refl _) _
  have em : (w1.alloc (.map #[] 0)).heap.size = w1.heap.size + 1 := by simp
  have HB2 := Lib.hid ((HB1.out.trans (hbm.mono (by have := HP1.out.lt; omega))).trans (hb2.mono (by have := HP1.out.lt; omega)))
  have HP2 := Lib.hid ((HP1.out.below hbm).below hb2)
  have HM2 := Lib.hid ((HM1.out.below hbm).below hb2)
  rw [em] at hq2 ⊢
  have HQ2 := Lib.hid hq2
  have HCL : Hid (c < w1.heap.size + 1) := Lib.hid (by have := HP1.out.lt; omega)
  clear hbm em hq2 hb2 HB1 HP1 HM1 HQN
  obtain ⟨mp, hmp⟩ : ∃ mp, w1.heap.size = mp := ⟨_, rfl⟩
  rw [hmp] at HQ2 HCL ⊢
  obtain ⟨qb, hqb⟩ : ∃ qb, mp + 1 = qb := ⟨_, rfl⟩
  rw [hqb] at HQ2 HCL ⊢
  clear hmp hqb
  go_upto_region 4 with fail
  have hsz := core_size
  have hzz := core_zero
  obtain ⟨Z, hZ⟩ : ∃ Z, Tryz.zeroCells82 = Z := ⟨_, rfl⟩
  rw [hZ] at hsz hzz ⊢
  clear hZ
  have hC := new_core (wb := wb) (qb := qb) (mp := mp) hzz hsz
  have hS : ((((Z.setIfInBounds 5 (.iface 35 (.pointer (some ⟨wb, 0, none⟩)))).setIfInBounds 6 (.map (some mp))).setIfInBounds 8 (.pointer (some ⟨qb, 0, none⟩))).setIfInBounds 267 (.int .i64 (-1))).size = 274 := by simp [hsz]
  obtain ⟨C, hCC⟩ : ∃ C, (((Z.setIfInBounds 5 (.iface 35 (.pointer (some ⟨wb, 0, none⟩)))).setIfInBounds 6 (.map (some mp))).setIfInBounds 8 (.pointer (some ⟨qb, 0, none⟩))).setIfInBounds 267 (.int .i64 (-1)) = C := ⟨_, rfl⟩
  rw [hCC] at hC hS ⊢
  clear hCC hzz hsz
  have hba : Below w2.heap.size w2 (w2.alloc (.cells C 82)) := (Below.refl _ _).alloc (Nat.le_refl _) _
  have HT : Hid (TbP (w2.alloc (.cells C 82)) w2.heap.size (newL wb qb)) := Lib.hid ⟨⟨new_lt _ _, fun p hp => (new_cell _ _ _ _).trans (hC p hp), new_fz _ _ _⟩, fun o _ h2 => ⟨C[o]'(by omega), (new_cell _ _ _ _).trans (Array.getElem?_eq_getElem (by omega))⟩⟩
  have HB3 := Lib.hid (HB2.out.trans (hba.mono (by have := HP2.out.lt; omega)))
  have HP3 := Lib.hid (HP2.out.below hba)
  have HM3 := Lib.hid (HM2.out.below hba)
  have HQ3 := Lib.hid (HQ2.out.below hba)
  have HQC : Hid (qb < w2.heap.size) := Lib.hid HQ2.out.lt
  obtain ⟨X, hX⟩ : ∃ X, w2.alloc (.cells C 82) = X := ⟨_, rfl⟩
  obtain ⟨cb, hcb⟩ : ∃ cb, w2.heap.size = cb := ⟨_, rfl⟩
  rw [hX] at HT HB3 HP3 HM3 HQ3 ⊢
  rw [hcb] at HT HQC ⊢
  clear hX hcb hba hC hS HB2 HP2 HM2 HQ2
  have HRS := Lib.hid (resolve_call HM3.out HCN.out q)
  have c0 := HP3.out.c0
  have c3 := HP3.out.c3
  have hl := HP3.out.lt
  go_wp2_with fail
  refine HRS.out.mono ?_; rintro e w3 ⟨⟨oc2, cc2, ot2, ct2, rfl, hcs⟩, hb3⟩
  have HT3 := Lib.hid (HT.out.same (hb3.block cb HT.out.bk.lt) hb3.size)
  have HB4 := Lib.hid (HB3.out.trans (hb3.mono (by omega)))
  have HQ4 := Lib.hid (HQ3.out.below hb3)
  have HCB : Hid (cb < X.heap.size) := Lib.hid HT.out.bk.lt
  have HCS := Lib.hid hcs
  clear hcs hb3 c0 c3 hl HRS HT HB3 HQ3 HM3 HP3 HCN
  have f1 := HT3.out.bk.get 1 rfl
  have f2 := HT3.out.bk.get 2 rfl
  have f3 := HT3.out.bk.get 3 rfl
  have f4 := HT3.out.bk.get 4 rfl
  have fz := HT3.out.bk.fz
  have hcl := HT3.out.bk.lt
  have hK : [0, 1, 2, 3, 4, 5, 8, 9, 122, 266, 267, 268, 269, 270, 271, 272, 273].Nodup := by decide
  obtain ⟨t1, e1⟩ := HT3.out.putK (newL_fst wb qb) hK 1 (o := 1) (u := .slice none 0 0) rfl (.slice oc2 nc cc2)
  obtain ⟨t2, e2⟩ := t1.putK e1 hK 2 (o := 2) (u := .slice none 0 0) rfl (.slice ot2 nc ct2)
  obtain ⟨t3, e3⟩ := t2.putK e2 hK 3 (o := 3) (u := .slice none 0 0) rfl (.slice none 0 0)
  obtain ⟨t4, e4⟩ := t3.putK e3 hK 4 (o := 4) (u := .bool false) rfl (.bool q)
  have HT4 := Lib.hid t4
  have HE4 := Lib.hid e4
  have k1 := Kept.setCell w3 ⟨cb, 1, none⟩ (.slice oc2 nc cc2)
  have k2 := Kept.setCell (w3.setCell ⟨cb, 1, none⟩ (.slice oc2 nc cc2)) ⟨cb, 2, none⟩ (.slice ot2 nc ct2)
  have k3 := Kept.setCell ((w3.setCell ⟨cb, 1, none⟩ (.slice oc2 nc cc2)).setCell ⟨cb, 2, none⟩ (.slice ot2 nc ct2)) ⟨cb, 3, none⟩ (.slice none 0 0)
  have k4 := Kept.setCell (((w3.setCell ⟨cb, 1, none⟩ (.slice oc2 nc cc2)).setCell ⟨cb, 2, none⟩ (.slice ot2 nc ct2)).setCell ⟨cb, 3, none⟩ (.slice none 0 0)) ⟨cb, 4, none⟩ (.bool q)
  have hk4 := ((k1.trans k2 fun _ _ e => e).trans k3 fun _ _ e => e).trans k4 fun _ _ e => e
  have HK4 := Lib.hid hk4
  clear t1 e1 t2 e2 t3 e3 t4 e4 hk4 hK k1 k2 k3 k4
  go_upto_region 5 with fail
  obtain ⟨W4, hW⟩ : ∃ V, (((w3.setCell ⟨cb, 1, none⟩ (.slice oc2 nc cc2)).setCell ⟨cb, 2, none⟩ (.slice ot2 nc ct2)).setCell ⟨cb, 3, none⟩ (.slice none 0 0)).setCell ⟨cb, 4, none⟩ (.bool q) = V := ⟨_, rfl⟩
  rw [hW] at HT4 HK4 ⊢
  clear hW f1 f2 f3 f4 fz hcl
  have HSP := Lib.hid (spnew_call W4)
  have hcl := HT4.out.bk.lt
  go_wp2_with fail
  refine HSP.out.mono ?_; rintro e w5 ⟨rfl, hsp, hb5⟩
  obtain ⟨sb, hsb⟩ : ∃ sb, W4.heap.size = sb := ⟨_, rfl⟩
  rw [hsb] at hsp ⊢
  have hsl := hsp.lt
  have HT5 := Lib.hid (HT4.out.same (hb5.block cb HT4.out.bk.lt) hb5.size)
  have hsc : cb < sb := by omega
  have hq4 : QuE W4 qb := by
    have hl := HQ4.out.lt
    have hb : W4.heap[qb]? = w3.heap[qb]? := HK4.out.block qb hl (by have := HQC.out; omega)
    exact ⟨Nat.lt_of_lt_of_le hl HK4.out.size, (World.cell?_of_block (a := ⟨qb, 0, none⟩) hb).trans HQ4.out.c0, (World.cell?_of_block (a := ⟨qb, 1, none⟩) hb).trans HQ4.out.c1, fun o => (World.frozen?_of_block (w := w3) (a := ⟨qb, o, none⟩) hb).trans (HQ4.out.fz o)⟩
  have HQ5 := Lib.hid (hq4.below hb5)
  have HB5 : Hid (Below c w w5) := Lib.hid ((HB4.out.trans (HK4.out.below (k := c) (by have := HT3.out.bk.lt; have := HQC.out; have := HCL.out; omega) fun j hj e => by have := HQC.out; have := HCL.out; omega)).trans (hb5.mono (by have := HQC.out; have := HCL.out; omega)))
  have HC5 : Hid (nc = 0 ∨ nc = 1 ∧ ∃ pb l, oc2 = some ⟨pb, 0, none⟩ ∧ cb < pb ∧ pb < sb ∧ CmP w5 pb l) := Lib.hid (by
    rcases HCS.out with ⟨h, _⟩ | ⟨h, pb, l', g, h1, h2, h3, _⟩
    · exact .inl h
    · have hpl := h2.lt
      have h2' := h2.same (HK4.out.block pb hpl (by have := HCB.out; omega)) HK4.out.size
      exact .inr ⟨h, pb, l', h1, by have := HCB.out; omega, by have := HK4.out.size; omega, h2'.same (hb5.block pb (by have := HK4.out.size; omega)) hb5.size⟩)
  have HSP5 := Lib.hid hsp
  have HSC := Lib.hid hsc
  obtain ⟨L4, hL4⟩ : ∃ L, (((((newL wb qb).set 1 (1, .slice oc2 nc cc2)).set 2 (2, .slice ot2 nc ct2)).set 3 (3, .slice none 0 0)).set 4 (4, .bool q)) = L := ⟨_, rfl⟩
  have g0 : L4[0]? = some (0, .pointer none) := by rw [← hL4]; rfl
  have g1 : L4[1]? = some (1, .slice oc2 nc cc2) := by rw [← hL4]; rfl
  have g7 : L4[7]? = some (9, .pointer none) := by rw [← hL4]; rfl
  rw [hL4] at HT5 HE4
  have HL4 := Lib.hid hL4
  clear hq4 hsp hsc hb5 HT4 HT3 HB4 HK4 HQ4 HCS HSP hcl hL4 hsb HCB
  have f0 := HT5.out.bk.get 0 g0
  have z0 := HT5.out.bk.fz 0
  have hcl := HT5.out.bk.lt
  have hK : [0, 1, 2, 3, 4, 5, 8, 9, 122, 266, 267, 268, 269, 270, 271, 272, 273].Nodup := by decide
  obtain ⟨t6, e6⟩ := HT5.out.putK HE4.out hK 0 g0 (.pointer (some ⟨sb, 0, none⟩))
  have k6 := Kept.setCell w5 ⟨cb, 0, none⟩ (.pointer (some ⟨sb, 0, none⟩))
  have hl0 : 0 < L4.length := (List.getElem?_eq_some_iff.1 g0).1
  have g1' : (L4.set 0 (0, .pointer (some ⟨sb, 0, none⟩)))[1]? = some (1, .slice oc2 nc cc2) := by rw [List.getElem?_set_ne (by decide)]; exact g1
  have g7' : (L4.set 0 (0, .pointer (some ⟨sb, 0, none⟩)))[7]? = some (9, .pointer none) := by rw [List.getElem?_set_ne (by decide)]; exact g7
  have HT6 := Lib.hid t6
  have HE6 := Lib.hid e6
  have HK6 := Lib.hid k6
  have G1 := Lib.hid g1'
  have G7 := Lib.hid g7'
  clear hK t6 e6 k6 g0 g1 g7 g1' g7' hl0
  go_upto_region 6 with fail
  obtain ⟨W6, hW⟩ : ∃ V, w5.setCell ⟨cb, 0, none⟩ (.pointer (some ⟨sb, 0, none⟩)) = V := ⟨_, rfl⟩
  rw [hW] at HT6 HK6 ⊢
  clear hW f0 z0 hcl HE4
  have f1 := HT6.out.bk.get 1 G1.out
  have hcl := HT6.out.bk.lt
  have hn1 : nc ≤ 1 := by rcases HC5.out with e | ⟨e, _⟩ <;> omega
  have HGA := Lib.hid (ganew_call (w := W6) hn1)
  clear hn1
  go_wp2_with fail
  refine HGA.out.mono ?_; rintro e w7 ⟨gb, og, cg, rfl, hg1, hg2, hg3, hb7⟩
  obtain ⟨pb, hpb⟩ : ∃ pb, nc = 0 ∨ nc = 1 ∧ oc2 = some ⟨pb, 0, none⟩ ∧ cb < pb ∧ pb < sb ∧ ∃ l, CmP w5 pb l := by
    rcases HC5.out with h | ⟨h, pb, l, h1, h2, h3, h4⟩
    · exact ⟨0, .inl h⟩
    · exact ⟨pb, .inr ⟨h, h1, h2, h3, l, h4⟩⟩
  have hw67 : ∀ k, k < w5.heap.size → k ≠ cb → w7.heap[k]? = w5.heap[k]? := fun k hk hn => (hb7.block k (Nat.lt_of_lt_of_le hk HK6.out.size)).trans (HK6.out.block k hk hn)
  have hs67 : w5.heap.size ≤ w7.heap.size := Nat.le_trans HK6.out.size hb7.size
  have hk67 : Kept w5 w7 (fun k => k = cb) := HK6.out.trans (Kept.of_below hb7 (fun _ => False) fun j hj hj2 => absurd hj2 (by omega)) fun _ _ e => e.elim
  have HN7 : Hid (NeS w7 cb sb qb gb nc oc2 pb (L4.set 0 (0, .pointer (some ⟨sb, 0, none⟩)))) := Lib.hid ⟨HT6.out.same (hb7.block cb HT6.out.bk.lt) hb7.size, HSP5.out.keep hk67 (by have := HSC.out; omega) (fun x hx => by cases hx),
    ⟨Nat.lt_of_lt_of_le HQ5.out.lt hs67, (World.cell?_of_block (a := ⟨qb, 0, none⟩) (hw67 qb HQ5.out.lt (by have := HQC.out; omega))).trans HQ5.out.c0, (World.cell?_of_block (a := ⟨qb, 1, none⟩) (hw67 qb HQ5.out.lt (by have := HQC.out; omega))).trans HQ5.out.c1, fun o => (World.frozen?_of_block (w := w5) (a := ⟨qb, o, none⟩) (hw67 qb HQ5.out.lt (by have := HQC.out; omega))).trans (HQ5.out.fz o)⟩,
    hg2, ⟨og, cg, hg3⟩, by
      rcases hpb with h | ⟨h, h1, h2, h3, l, h4⟩
      · exact .inl h
      · exact .inr ⟨h, h1, h2, h3, l, h4.same (hw67 pb h4.lt (by omega)) hs67⟩, HQC.out, HSC.out, by have := HK6.out.size; omega⟩
  have HB7 : Hid (Below c w w7) := Lib.hid (HB5.out.trans (hk67.below (k := c) (by have := HQC.out; have := HCL.out; have := HQ5.out.lt; omega) fun j hj e => by have := HQC.out; have := HCL.out; omega))
  clear hpb hw67 hs67 hk67 hg1 hg2 hg3 hb7 f1 hcl HK6 HT6 HC5 HB5 HSP5 HQ5 HGA HT5 hsl
  have f9 := HN7.out.tb.bk.get 7 G7.out
  have z9 := HN7.out.tb.bk.fz 9
  have hcl := HN7.out.tb.bk.lt
  have hK : [0, 1, 2, 3, 4, 5, 8, 9, 122, 266, 267, 268, 269, 270, 271, 272, 273].Nodup := by decide
  obtain ⟨t8, e8⟩ := HN7.out.tb.putK HE6.out hK 7 G7.out (.pointer (some ⟨gb, 0, none⟩))
  have k8 := Kept.setCell w7 ⟨cb, 9, none⟩ (.pointer (some ⟨gb, 0, none⟩))
  have HN8 := Lib.hid (HN7.out.tbl (fun k _ hn => Below.heap_setCell _ _ _ _ hn) k8.size k8 t8)
  have HB8 := Lib.hid (HB7.out.setCell (p := ⟨cb, 9, none⟩) (by show c ≤ cb; have := HQC.out; have := HCL.out; omega) (.pointer (some ⟨gb, 0, none⟩)))
  have g1 : ((L4.set 0 (0, .pointer (some ⟨sb, 0, none⟩))).set 7 (9, .pointer (some ⟨gb, 0, none⟩)))[1]? = some (1, .slice oc2 nc cc2) := by rw [List.getElem?_set_ne (by decide)]; exact G1.out
  have G1 := Lib.hid g1
  clear hK t8 e8 k8 g1
  go_upto_region 7 with fail
  obtain ⟨W8, hW⟩ : ∃ V, w7.setCell ⟨cb, 9, none⟩ (.pointer (some ⟨gb, 0, none⟩)) = V := ⟨_, rfl⟩
  rw [hW] at HN8 HB8 ⊢
  clear hW f9 z9 hcl HN7 HB7
  obtain ⟨L5, hL5⟩ : ∃ L, (L4.set 0 (0, .pointer (some ⟨sb, 0, none⟩))).set 7 (9, .pointer (some ⟨gb, 0, none⟩)) = L := ⟨_, rfl⟩
  rw [hL5] at HN8 G1
  have HL5 := Lib.hid hL5
  clear hL5
  have f1 := HN8.out.tb.bk.get 1 G1.out
  have hcl := HN8.out.tb.bk.lt
  go_wp2_with fail
  clear f1 hcl HE6 G7
  go_loopg [57] (nc + 1) (fun gk kv wr => ∃ i : Nat, kv = .int .i64 (i : Nat) ∧ gk = nc + 1 - i ∧ i ≤ nc ∧ Below W8.heap.size W8 wr)
  case atStart => exact ⟨0, rfl, rfl, Nat.zero_le _, Below.refl _ _⟩
  case round =>
  obtain ⟨i, rfl, hgk, hin, hbw⟩ := hrel
  have HGK := Lib.hid hgk
  have HIN := Lib.hid hin
  have HBW := Lib.hid hbw
  clear hgk hin hbw
  have HN := Lib.hid (HN8.out.below HBW.out)
  by_cases hi : i < nc
  · obtain ⟨rfl, rfl, _, _, l2, hcm⟩ : nc = 1 ∧ oc2 = some ⟨pb, 0, none⟩ ∧ cb < pb ∧ pb < sb ∧ ∃ l, CmP wr pb l := by
      rcases HN.out.cm with e | e
      · omega
      · exact e
    obtain rfl : i = 0 := by omega
    have HC := Lib.hid hcm
    have HRG := Lib.hid hcm.row
    clear hcm hi
    have HCI : Hid ((Tryz.prog.info? 60).map (·.size) = some l2.length) := Lib.hid (by rw [HC.out.cl.len]; exact cmd_info)
    have HSZ := Lib.hid (cmb_info HC.out.cl)
    have HSO : Hid (Tryz.zeroCells60.size = l2.toArray.size) := Lib.hid (by rw [← Array.length_toList, List.size_toArray, cmd_size, HC.out.cl.len])
    have HON : Hid (l2.toArray.all (·.oneCell') = true) := Lib.hid (by rw [← Array.all_toList, List.all_eq_true]; simpa using HC.out.cl.one)
    have HHN := Lib.hid (heap_alloc_new wr (.cells Tryz.zeroCells60 60))
    have hbe : Below wr.heap.size wr ((wr.alloc (.cells Tryz.zeroCells60 60)).setRow wr.heap.size l2.toArray) := below_row ((Below.refl _ _).alloc (Nat.le_refl _) _) (Nat.le_refl _) _
    have HE : Hid (CmB ((wr.alloc (.cells Tryz.zeroCells60 60)).setRow wr.heap.size l2.toArray) wr.heap.size l2) := Lib.hid ⟨setRow_heap _ _ _ _ _ _ HHN.out, HC.out.cl⟩
    have HBE := Lib.hid hbe
    clear hbe
    go_upto_region 10 with (first | refine wpList_load_mid rfl 60 _ rfl pb 0 rfl l2 _ HRG.out Tryz.underlying60 rfl HCI.out ?_ | refine wpList_store_row rfl 60 _ _ rfl wr.heap.size l2.toArray rfl rfl _ _ HHN.out HSZ.out HSO.out HON.out ?_)
    obtain ⟨X1, hX⟩ : ∃ X, (wr.alloc (.cells Tryz.zeroCells60 60)).setRow wr.heap.size l2.toArray = X := ⟨_, rfl⟩
    rw [hX] at HE HBE ⊢
    have HBF : Hid (Below W8.heap.size W8 X1) := Lib.hid (HBW.out.trans (HBE.out.mono HBW.out.size))
    obtain ⟨e, he⟩ : ∃ e, wr.heap.size = e := ⟨_, rfl⟩
    rw [he] at HE ⊢
    clear hX he HRG HHN HSO HON HBE
    have k2 : X1.cell? ⟨e, 2, none⟩ = some (.slice none 0 0) := (HE.out.cell 2).trans (HC.out.r 2 (.inl rfl))
    have k5 : X1.cell? ⟨e, 5, none⟩ = some (.slice none 0 0) := (HE.out.cell 5).trans (HC.out.r 5 (.inr (.inl rfl)))
    have k10 : X1.cell? ⟨e, 10, none⟩ = some (.slice none 0 0) := (HE.out.cell 10).trans (HC.out.r 10 (.inr (.inr rfl)))
    have hel := HE.out.lt
    go_wp2_with fail
    have hq : ∀ j, j < 3 → (X1.alloc (.cells #[.slice none 0 0, .slice none 0 0, .slice none 0 0] 53)).cell? ⟨X1.heap.size, j, none⟩ = some (.slice none 0 0) := fun j hj => by
      rw [new_cell]
      rcases (show j = 0 ∨ j = 1 ∨ j = 2 by omega) with rfl | rfl | rfl <;> rfl
    have HQ := Lib.hid hq
    have HXL := Lib.hid (new_lt X1 (.cells #[.slice none 0 0, .slice none 0 0, .slice none 0 0] 53))
    have HBG := Lib.hid (HBF.out.alloc HBF.out.size (.cells #[.slice none 0 0, .slice none 0 0, .slice none 0 0] 53))
    obtain ⟨X2, hX⟩ : ∃ X, X1.alloc (.cells #[.slice none 0 0, .slice none 0 0, .slice none 0 0] 53) = X := ⟨_, rfl⟩
    rw [hX] at HQ HBG HXL ⊢
    obtain ⟨r, hr⟩ : ∃ r, X1.heap.size = r := ⟨_, rfl⟩
    rw [hr] at HQ HXL ⊢
    clear hX hr hq k2 k5 k10 hel HE HBF
    go_loopg [72] 4 (fun gk kv wr => ∃ j : Nat, kv = .int .i64 (j : Nat) ∧ gk = 4 - j ∧ j ≤ 3 ∧ wr = X2)
    case atStart => exact ⟨0, rfl, rfl, by decide, rfl⟩
    case round =>
    obtain ⟨j, rfl, hgk, hj, hwr⟩ := hrel
    have HGK2 := Lib.hid hgk
    have HJ := Lib.hid hj
    clear hgk hj
    subst hwr
    by_cases hj3 : j < 3
    · have hj' : (j : Int) < 3 := by omega
      have kj := HQ.out j hj3
      have hxl := HXL.out
      go_wp2_with fail
      go_roundg (4 - (j + 1))
      case measure => have := HGK2.out; omega
      case rel => exact ⟨j + 1, by go_num, rfl, by omega, rfl⟩
    have hj' : ¬ (j : Int) < 3 := by omega
    go_wp2_with fail
    go_roundg 1
    case measure => have := HGK.out; omega
    case rel => exact ⟨1, rfl, rfl, by decide, HBG.out⟩
  obtain rfl : i = nc := by have := HIN.out; omega
  clear hi
  have hii : ¬ (i : Int) < (i : Int) := by omega
  obtain ⟨k0, hk0⟩ : ∃ k0 : CK, k0 = ⟨sb, wb, qb, gb, 0, cb, pb, oc2, i, cc2, q⟩ := ⟨_, rfl⟩
  have hmem : ∀ p ∈ core0 k0 ⟨false, -1, 0, 0, 0, false⟩, p ∈ L5 := by
    rw [← HL5.out, ← HL4.out, hk0]
    intro p hp
    simp only [core0, coreL, newL, List.set_cons_zero, List.set_cons_succ, List.mem_cons, List.not_mem_nil, or_false] at hp ⊢
    rcases hp with h | h | h | h | h | h | h | h | h | h | h | h | h | h | h <;> simp [h]
  have hT : TbP wr k0.cb (core0 k0 ⟨false, -1, 0, 0, 0, false⟩) := by
    rw [hk0] at hmem ⊢
    exact ⟨⟨HN.out.tb.bk.lt, fun p hp => HN.out.tb.bk.fx p (hmem p hp), HN.out.tb.bk.fz⟩, HN.out.tb.ex⟩
  have HTB := Lib.hid (table_call hT)
  rw [show k0.cb = cb by rw [hk0]] at HTB
  have HK0 := Lib.hid hk0
  clear hk0 hmem hT
  go_wp2_with fail
  refine HTB.out.mono ?_; rintro e w9 ⟨rfl, hbk, hkt⟩
  have HBK := Lib.hid hbk
  have HKT := Lib.hid hkt
  clear hbk hkt HTB
  go_wp2_with fail
  go_ret2
  obtain rfl := HK0.out
  have hbk := HBK.out
  have hkt := HKT.out
  have hn := HN.out
  have hba : Below w9.heap.size w9 (w9.alloc (.cells #[.pointer (some ⟨cb, 0, none⟩)] 94)) := (Below.refl _ _).alloc (Nat.le_refl _) _
  have bl : ∀ x, x < wr.heap.size → x ≠ cb → (w9.alloc (.cells #[.pointer (some ⟨cb, 0, none⟩)] 94)).heap[x]? = wr.heap[x]? := fun x hx hne => (hba.block x (Nat.lt_of_lt_of_le hx hkt.size)).trans (hkt.block x hx hne)
  have hs : wr.heap.size ≤ (w9.alloc (.cells #[.pointer (some ⟨cb, 0, none⟩)] 94)).heap.size := Nat.le_trans hkt.size hba.size
  have h1 := hn.o1
  have h2 := hn.o2
  have h3 := hn.o3
  have h4 := hn.gl
  have hkz := hkt.size
  have hB : Below c w (w9.alloc (.cells #[.pointer (some ⟨cb, 0, none⟩)] 94)) := ((HB8.out.trans (HBW.out.mono (by have := HCL.out; have := HN8.out.gl; have := HN8.out.o1; omega))).trans (hkt.below (k := c) (by have := HCL.out; omega) fun j hj e => by have := HCL.out; omega)).trans (hba.mono (by have := HCL.out; omega))
  have hsp : SpcB (w9.alloc (.cells #[.pointer (some ⟨cb, 0, none⟩)] 94)) sb [] none := (hn.sp.keep hkt (by omega) fun x hx => by cases hx).below hba
  refine ⟨⟨⟨sb, wb, qb, gb, w9.heap.size, cb, pb, oc2, i, cc2, q⟩, rfl, ⟨new_lt _ _, new_cell _ _ _ 0, hbk.same (hba.block cb hbk.lt) hba.size, hsp, ⟨by show qb < _; omega, (World.cell?_of_block (a := ⟨qb, 0, none⟩) (bl qb (by omega) (by omega))).trans hn.qu.c0, (World.cell?_of_block (a := ⟨qb, 1, none⟩) (bl qb (by omega) (by omega))).trans hn.qu.c1, fun o => (World.frozen?_of_block (w := wr) (a := ⟨qb, o, none⟩) (bl qb (by omega) (by omega))).trans (hn.qu.fz o)⟩, ?_, fun e => ?_, ⟨h1, h2, h3, by show gb < w9.heap.size; omega⟩, fun x hx => (by cases hx), ?_⟩, rfl, rfl, rfl, by rw [HCZ.out]; show c ≤ qb; have := HCL.out; omega⟩, by rw [HCZ.out]; exact hB⟩
  · obtain ⟨og', cg', e⟩ := hn.ga
    exact ⟨og', cg', (World.cell?_of_block (a := ⟨gb, 0, none⟩) (bl gb (by omega) (by omega))).trans e⟩
  · rcases hn.cm with e1 | ⟨_, e1, e2, e3, l', e4⟩
    · exact absurd e (by show ¬ i = 1; omega)
    · exact ⟨e1, e2, e3, l', e4.same (bl pb (by omega) (by omega)) hs⟩
  · rcases hn.cm with e1 | ⟨e1, _⟩
    · exact .inl e1
    · exact .inr e1
end
end Go.Proofs.YtdinjlglngpecaaGreatDoor
