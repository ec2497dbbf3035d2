/- Parts: Ro Rp Pa. -/
import Derived.Test.YtbdjcmhfcdamiaaDoorQ15
import Derived.Test.YtbdjcmhfcdamiaaDoorQ16
import Derived.Test.YtbdjcmhfcdamiaaDoorQ9
import Derived.Test.YtbdjcmhfcdamiaaDoorQ1
/- Contract of package syntax's Parse. -/
namespace Go.Proofs.YtbdjcmhfcdamiaaDoor
open Go.RowKit

/-- Nodes that may stand there. -/
def okAt (re : List Nd) (p : Nat) : Prop := ∃ x, re[p]? = some x ∧ goodN x = true ∧ x.kids ≤ re.length
theorem nodeN_good_kids {re : List Nd} {g : Nat → List Bool → Option (Nat × List Bool)} (hg : ∀ i en r, g i en = some r → i < r.1 ∧ r.1 ≤ re.length ∧ ∀ p, i ≤ p → p < r.1 → okAt re p) :
    ∀ (k i : Nat) (en : List Bool) (r : Nat × List Bool), i ≤ re.length → kidsN g k i en = some r → i + k ≤ r.1 ∧ r.1 ≤ re.length ∧ ∀ p, i ≤ p → p < r.1 → okAt re p
  | 0, i, en, r, hi, h => by simp only [kidsN, Option.some.injEq] at h; subst h; exact ⟨Nat.le_refl _, hi, fun p h1 h2 => by simp only at h2; omega⟩
  | k + 1, i, en, r, hi, h => by
    unfold kidsN at h
    split at h
    · cases h
    · rename_i j en1 h1
      have h2 := hg _ _ _ h1
      simp only at h2
      have h3 := nodeN_good_kids hg k _ _ _ h2.2.1 h
      refine ⟨by omega, h3.2.1, fun p hp1 hp2 => ?_⟩
      by_cases hj : p < j
      · exact h2.2.2 p hp1 hj
      · exact h3.2.2 p (by omega) hp2
/-- All nodes of what is well shaped are good. -/
theorem nodeN_good (re : List Nd) : ∀ (f g i : Nat) (en : List Bool) (r : Nat × List Bool), nodeN re f g i en = some r → i < r.1 ∧ r.1 ≤ re.length ∧ ∀ p, i ≤ p → p < r.1 → okAt re p
  | 0, _, _, _, _, h => by simp [nodeN] at h
  | f + 1, g, i, en, r, h => by
    unfold nodeN at h
    split at h
    · cases h
    · rename_i n hn
      split at h
      · cases h
      · rename_i hgd
        have hgd' : goodN n = true := by simpa using hgd
        have hi : i < re.length := (List.getElem?_eq_some_iff.1 hn).1
        have fin : ∀ (g' : Nat) (en1 : List Bool) (r1 : Nat × List Bool), kidsN (nodeN re f g') n.kids.toNat (i + 1) en1 = some r1 → i < r1.1 ∧ r1.1 ≤ re.length ∧ ∀ p, i ≤ p → p < r1.1 → okAt re p := fun g' en1 r1 hk => by
          have h1 := nodeN_good_kids (re := re) (fun i en r => nodeN_good re f g' i en r) _ _ _ _ (by omega) hk
          refine ⟨by have := h1.1; omega, h1.2.1, fun p hp1 hp2 => ?_⟩
          by_cases he : p = i
          · subst he
            exact ⟨n, hn, hgd', by have := h1.1; have := h1.2.1; omega⟩
          · exact h1.2.2 p (by omega) hp2
        split at h
        · cases h
        · split at h
          · split at h
            · cases h
            · split at h
              · cases h
              · rename_i hk
                cases h
                have := fin _ _ _ hk
                exact this
          · exact fin _ _ _ h
theorem shaped_ok {re : List Nd} (h : ∀ p, p < re.length → okAt re p) : RepOk re ∧ ∀ x ∈ re, x.kids ≤ re.length := by
  have all : ∀ x ∈ re, goodN x = true ∧ x.kids ≤ re.length := fun x hx => by
    obtain ⟨p, hp⟩ := List.mem_iff_getElem?.1 hx
    obtain ⟨y, hy, hg⟩ := h p (List.getElem?_eq_some_iff.1 hp).1
    rw [hp] at hy; cases hy; exact hg
  refine ⟨fun x hx h6 => ?_, fun x hx => (all x hx).2⟩
  have := (all x hx).1
  simp only [goodN, h6, if_true, Bool.and_eq_true, decide_eq_true_eq, Bool.or_eq_true, beq_iff_eq] at this
  omega

/-- What Parse answers. -/
def parseL (ere : Bool) (L : List Mk) : Except (Nat × Nat) (List Nd) :=
  if 4096 < L.length then .error (2, 4096)
  else if L.length = 0 then .error (45, 0)
  else match sidesK ere L 64 ⟨0, []⟩ with
    | .no e i => .error (e, i)
    | .ok re _ => match weighN re 260 0 with
      | some (w, _) => if 16384 < w then .error (48, L.length) else .ok re
      | none => .error (0, 0)
end Go.Proofs.YtbdjcmhfcdamiaaDoor

/- Contract of package syntax's Parse. -/
namespace Go.Proofs.YtbdjcmhfcdamiaaDoor
open Go.RowKit

/-- What Parse hands back. -/
def ParR (w : World) (r : Except (Nat × Nat) (List Nd)) (e : Ending) (w' : World) : Prop :=
  match r with
  | .error (er, i) => e = .returned (.tuple #[.slice none 0 0, .int .i64 (er : Nat), .int .i64 (i : Nat)])
  | .ok re => ∃ v, e = .returned (.tuple #[v, .int .i64 0, .int .i64 0]) ∧ Nds w' w.heap.size v re

theorem ndsC_at : ∀ (re : List Nd) (i j : Nat), i < re.length → j < 9 → (ndsC re)[i * 9 + j]? = (ndCells (re.getD i Nd.zero))[j]?
  | [], i, j, h, _ => by simp at h
  | x :: l, 0, j, _, hj => by
    rw [ndsC_cons, List.getElem?_append_left (by simp [ndCells]; omega)]
    simp
  | x :: l, i + 1, j, h, hj => by
    rw [ndsC_cons, List.getElem?_append_right (by simp [ndCells]; omega)]
    have := ndsC_at l i j (by simpa using h) hj
    simpa [ndCells, show (i + 1) * 9 + j - 9 = i * 9 + j by omega] using this
theorem Nds.at {w : World} {base : Nat} {v : Value} {re : List Nd} (h : Nds w base v re) (hn : 0 < re.length) (hl : re.length ≤ 4294967296) (hk : ∀ x ∈ re, x.kids ≤ re.length) : ∃ g cp, v = .slice (some ⟨g, 0, none⟩) re.length cp ∧ base ≤ g ∧ NdAt w g 0 re := by
  rcases h.2 with ⟨_, h0⟩ | ⟨g, cp, cur, rfl, hg1, hg2, _⟩
  · omega
  · refine ⟨g, cp, rfl, hg1, ⟨(Array.getElem?_eq_some_iff.1 hg2).1, hl, fun i hi j => ?_, fun x hx => by have := hk x hx; omega⟩⟩
    by_cases hj : j < 9
    · left
      rw [World.ownsRow.cellAt h _ (by omega), show 0 + i * 9 + j = i * 9 + j by omega, ndsC_at re i j hi hj]
    · right; omega

theorem results_parse {tmps : Array Value} {W : World} {b4 b5 b6 : Nat} {oa : Option Addr} {n cp : Nat} {e i : Int} (t4 : tmps.getD 4 undef = .pointer (some ⟨b4, 0, none⟩)) (t5 : tmps.getD 5 undef = .pointer (some ⟨b5, 0, none⟩)) (t6 : tmps.getD 6 undef = .pointer (some ⟨b6, 0, none⟩))
    (c4 : W.cell? ⟨b4, 0, none⟩ = some (.slice oa n cp)) (c5 : W.cell? ⟨b5, 0, none⟩ = some (.int .i64 e)) (c6 : W.cell? ⟨b6, 0, none⟩ = some (.int .i64 i)) :
    (results Tryd.f22 tmps).run Tryd.prog W = .ok (.tuple #[.slice oa n cp, .int .i64 e, .int .i64 i]) W := by
  simp only [Array.getD_eq_getD_getElem?] at t4 t5 t6
  simp [results, Tryd.results22, go_sem, t4, t5, t6, c4, c5, c6]
/-- Three variables. -/
structure Vars (w W : World) (b4 b5 b6 : Nat) (x y z : Value) : Prop where
  c4 : W.cell? ⟨b4, 0, none⟩ = some x
  c5 : W.cell? ⟨b5, 0, none⟩ = some y
  c6 : W.cell? ⟨b6, 0, none⟩ = some z
  z4 : W.frozen? ⟨b4, 0, none⟩ = false
  z5 : W.frozen? ⟨b5, 0, none⟩ = false
  z6 : W.frozen? ⟨b6, 0, none⟩ = false
  b : Below w.heap.size w W
  l4 : w.heap.size ≤ b4
  l5 : b5 = b4 + 1
  l6 : b6 = b4 + 1 + 1
  lt : b4 + 1 + 1 < W.heap.size
theorem Vars.new (w : World) (x y z : Value) : Vars w (((w.alloc (.cells #[x] 69)).alloc (.cells #[y] 70)).alloc (.cells #[z] 3)) w.heap.size (w.heap.size + 1) (w.heap.size + 1 + 1) x y z := by
  have s1 : (w.alloc (.cells #[x] 69)).heap.size = w.heap.size + 1 := by simp
  have s2 : ((w.alloc (.cells #[x] 69)).alloc (.cells #[y] 70)).heap.size = w.heap.size + 1 + 1 := by simp
  have h4 : (((w.alloc (.cells #[x] 69)).alloc (.cells #[y] 70)).alloc (.cells #[z] 3)).heap[w.heap.size]? = some (.cells #[x] 69 (0, 0)) :=
    (heap_alloc_old _ _ (by omega)).trans ((heap_alloc_old _ _ (by omega)).trans (heap_alloc_new _ _))
  have h5 : (((w.alloc (.cells #[x] 69)).alloc (.cells #[y] 70)).alloc (.cells #[z] 3)).heap[w.heap.size + 1]? = some (.cells #[y] 70 (0, 0)) :=
    (heap_alloc_old _ _ (by omega)).trans (by rw [← s1]; exact heap_alloc_new _ _)
  have h6 : (((w.alloc (.cells #[x] 69)).alloc (.cells #[y] 70)).alloc (.cells #[z] 3)).heap[w.heap.size + 1 + 1]? = some (.cells #[z] 3 (0, 0)) := by
    rw [← s2]; exact heap_alloc_new _ _
  exact ⟨(cell_of_row _ _ 0 _ _ (0, 0) h4).trans rfl, (cell_of_row _ _ 0 _ _ (0, 0) h5).trans rfl, (cell_of_row _ _ 0 _ _ (0, 0) h6).trans rfl, frozen_of_row _ _ _ _ _ h4, frozen_of_row _ _ _ _ _ h5, frozen_of_row _ _ _ _ _ h6,
    (((Below.refl _ _).alloc (Nat.le_refl _) _).alloc (by omega) _).alloc (by omega) _, Nat.le_refl _, rfl, rfl, by simp⟩
theorem Vars.keep {w W W' : World} {b4 b5 b6 : Nat} {x y z : Value} (h : Vars w W b4 b5 b6 x y z) (hb : ∀ k, k ≤ b4 + 1 + 1 → W'.heap[k]? = W.heap[k]?) (hB : Below w.heap.size W W') : Vars w W' b4 b5 b6 x y z := by
  have e4 := hb b4 (by omega)
  have e5 := hb b5 (by rw [h.l5]; omega)
  have e6 := hb b6 (by rw [h.l6]; omega)
  exact ⟨(World.cell?_of_block (w := W) (a := ⟨b4, 0, none⟩) e4).trans h.c4, (World.cell?_of_block (w := W) (a := ⟨b5, 0, none⟩) e5).trans h.c5, (World.cell?_of_block (w := W) (a := ⟨b6, 0, none⟩) e6).trans h.c6,
    (World.frozen?_of_block (w := W) (a := ⟨b4, 0, none⟩) e4).trans h.z4, (World.frozen?_of_block (w := W) (a := ⟨b5, 0, none⟩) e5).trans h.z5, (World.frozen?_of_block (w := W) (a := ⟨b6, 0, none⟩) e6).trans h.z6,
    h.b.trans hB, h.l4, h.l5, h.l6, Nat.lt_of_lt_of_le h.lt hB.size⟩

theorem Vars.set {w W : World} {b4 b5 b6 : Nat} {x y z : Value} (h : Vars w W b4 b5 b6 x y z) (a b c : Value) : Vars w (((W.setCell ⟨b4, 0, none⟩ a).setCell ⟨b5, 0, none⟩ b).setCell ⟨b6, 0, none⟩ c) b4 b5 b6 a b c := by
  obtain ⟨c4, c5, c6, z4, z5, z6, hb, l4, rfl, rfl, lt⟩ := h
  refine ⟨?_, ?_, ?_, frozen_store _ _ _ _ (frozen_store _ _ _ _ (frozen_store _ _ _ _ z4)), frozen_store _ _ _ _ (frozen_store _ _ _ _ (frozen_store _ _ _ _ z5)), frozen_store _ _ _ _ (frozen_store _ _ _ _ (frozen_store _ _ _ _ z6)),
    ((hb.setCell l4 _).setCell (by show _ ≤ b4 + 1; omega) _).setCell (by show _ ≤ b4 + 1 + 1; omega) _, l4, rfl, rfl, by simpa using lt⟩
  · rw [World.cell?_setCell_other _ _ _ _ (by simp only [ne_eq, Addr.mk.injEq, not_and]; omega), World.cell?_setCell_other _ _ _ _ (by simp only [ne_eq, Addr.mk.injEq, not_and]; omega)]
    exact World.cell?_setCell_same _ _ _ c4
  · rw [World.cell?_setCell_other _ _ _ _ (by simp only [ne_eq, Addr.mk.injEq, not_and]; omega)]
    exact World.cell?_setCell_same _ _ _ ((World.cell?_setCell_other _ _ _ _ (by simp only [ne_eq, Addr.mk.injEq, not_and]; omega)).trans c5)
  · exact World.cell?_setCell_same _ _ _ ((World.cell?_setCell_other _ _ _ _ (by simp only [ne_eq, Addr.mk.injEq, not_and]; omega)).trans ((World.cell?_setCell_other _ _ _ _ (by simp only [ne_eq, Addr.mk.injEq, not_and]; omega)).trans c6))
theorem Vars.set1 {w W : World} {b4 b5 b6 : Nat} {x y z : Value} (h : Vars w W b4 b5 b6 x y z) (a : Value) : Vars w (W.setCell ⟨b4, 0, none⟩ a) b4 b5 b6 a y z := by
  obtain ⟨c4, c5, c6, z4, z5, z6, hb, l4, rfl, rfl, lt⟩ := h
  exact ⟨World.cell?_setCell_same _ _ _ c4, (World.cell?_setCell_other _ _ _ _ (by simp only [ne_eq, Addr.mk.injEq, not_and]; omega)).trans c5, (World.cell?_setCell_other _ _ _ _ (by simp only [ne_eq, Addr.mk.injEq, not_and]; omega)).trans c6,
    frozen_store _ _ _ _ z4, frozen_store _ _ _ _ z5, frozen_store _ _ _ _ z6, hb.setCell l4 _, l4, rfl, rfl, by simpa using lt⟩
theorem Nds.store {w : World} {base : Nat} {v : Value} {re : List Nd} (h : Nds w base v re) {b : Nat} (hb : ∀ g, v.ownBlock = some g → g ≠ b) (u : Value) : Nds (w.setCell ⟨b, 0, none⟩ u) base v re := h.block fun g hg => Below.heap_setCell _ _ _ _ (hb g hg)
theorem Nds.alloc {w : World} {base : Nat} {v : Value} {re : List Nd} (h : Nds w base v re) (o : Obj) : Nds (w.alloc o) base v re := h.below ((Below.refl _ _).alloc (Nat.le_refl _) _)
theorem NdAt.store {w : World} {nb no : Nat} {re : List Nd} (h : NdAt w nb no re) {b : Nat} (hb : nb ≠ b) (u : Value) : NdAt (w.setCell ⟨b, 0, none⟩ u) nb no re :=
  ⟨by simpa [World.setCell] using h.lt, h.len, fun i hi j => (h.c i hi j).imp (fun e => (World.cell?_setCell_other _ _ _ _ (by simp only [ne_eq, Addr.mk.injEq, not_and]; intro e; exact absurd e.symm hb)).trans e) id, h.k⟩
theorem Vars.alloc {w W : World} {b4 b5 b6 : Nat} {x y z : Value} (h : Vars w W b4 b5 b6 x y z) (o : Obj) : Vars w (W.alloc o) b4 b5 b6 x y z :=
  h.keep (fun k hk => Below.heap_alloc _ _ _ (by have := h.lt; omega)) ((Below.refl _ _).alloc h.b.size _)
theorem Vars.drew {w W : World} {b4 b5 b6 : Nat} {x y z : Value} (h : Vars w W b4 b5 b6 x y z) : Vars w W.drew b4 b5 b6 x y z :=
  h.keep (fun _ _ => rfl) (Below.refl _ _).drew

set_option maxRecDepth 100000 in
set_option maxHeartbeats 1600000 in
theorem parse_long {ere : Bool} {L : List Mk} {oa : Option Addr} {cap : Nat} {w : World} (hL : 4096 < L.length) :
    Calls Tryd.prog 22 #[.bool ere, .slice oa L.length cap] w fun e w' => ParR w (parseL ere L) e w' ∧ Below w.heap.size w w' := by
  have hL' : (4096 : Int) < (L.length : Int) := by omega
  have HP : Hid (parseL ere L = .error (2, 4096)) := by rw [Hid, parseL, if_pos hL]
  go_enter_defers Tryd.func22, Tryd.ntmps22
  go_wp2_with fail
  have hv := Vars.new w (.slice none 0 0) (.int .i64 2) (.int .i64 4096)
  exact ⟨_, results_parse rfl rfl rfl hv.c4 hv.c5 hv.c6, by rw [HP.out]; rfl, hv.b⟩
set_option maxRecDepth 100000 in
set_option maxHeartbeats 1600000 in
theorem parse_none {ere : Bool} {L : List Mk} {oa : Option Addr} {cap : Nat} {w : World} (hL : L.length = 0) :
    Calls Tryd.prog 22 #[.bool ere, .slice oa L.length cap] w fun e w' => ParR w (parseL ere L) e w' ∧ Below w.heap.size w w' := by
  have HP : Hid (parseL ere L = .error (45, 0)) := by rw [Hid, parseL, if_neg (by omega), if_pos hL]
  rw [hL]
  clear hL
  go_enter_defers Tryd.func22, Tryd.ntmps22
  go_wp2_with fail
  have hv := Vars.new w (.slice none 0 0) (.int .i64 45) (.int .i64 0)
  exact ⟨_, results_parse rfl rfl rfl hv.c4 hv.c5 hv.c6, by rw [HP.out]; rfl, hv.b⟩
set_option maxRecDepth 100000 in
set_option maxHeartbeats 1600000 in
theorem parse_some {ere : Bool} {L : List Mk} {mb mo cap : Nat} {w : World} (hL : 0 < L.length) (hm : MkAt w mb mo L) :
    Calls Tryd.prog 22 #[.bool ere, .slice (some ⟨mb, mo, none⟩) L.length cap] w fun e w' => ParR w (parseL ere L) e w' ∧ Below w.heap.size w w' := by
  have hmf : ∀ (fn : Fn) (first cap : Array Value) (w : World), (Instr.makeFunc fn first cap).run Tryd.prog w = .ok (.func fn first cap) w := fun _ _ _ _ => rfl
  have h1 : ¬ (4096 : Int) < (L.length : Int) := by have := hm.len; omega
  have h2 : ¬ (L.length : Int) = 0 := by omega
  have HP : Hid (parseL ere L = match sidesK ere L 64 ⟨0, []⟩ with
    | .no e i => .error (e, i)
    | .ok re _ => match weighN re 260 0 with
      | some (w, _) => if 16384 < w then .error (48, L.length) else .ok re
      | none => .error (0, 0)) := by rw [Hid, parseL, if_neg (by omega), if_neg (by omega)] <;> rfl
  have HM := Lib.hid hm
  clear hm
  go_enter_defers Tryd.func22, Tryd.ntmps22
  go_wp2_with fail
  have hv := Vars.new w (.slice none 0 0) (.int .i64 0) (.int .i64 0)
  revert hv
  generalize ((w.alloc (.cells #[.slice none 0 0] 69)).alloc (.cells #[.int .i64 0] 70)).alloc (.cells #[.int .i64 0] 3) = W3
  intro hv
  have HB3 := Lib.hid hv.b
  refine (newReader_rd ere (HM.out.below hv.b)).mono ?_
  rintro e W4 ⟨rfl, hr4, hb4⟩
  have HV4 := Lib.hid (hv.keep (fun k hk => hb4.block k (by have := hv.lt; omega)) (hb4.mono hv.b.size))
  have hlt3 := hv.lt
  clear hv
  obtain ⟨rb, hrb⟩ : ∃ rb, W3.heap.size = rb := ⟨_, rfl⟩
  rw [hrb] at hr4 hb4 hlt3
  have HR4 := Lib.hid hr4
  clear hr4
  go_wp2_with fail
  refine (sides_any (Nat.le_refl 64) W4 ⟨0, []⟩ _ HR4.out).mono ?_
  rintro e W5 ⟨hb5, hp5⟩
  have hV5 := HV4.out.keep (fun k hk => hb5.block k (by have := HV4.out.lt; omega) (by omega) (by simp [Value.ownBlock]))
    ⟨hb5.os, hb5.tape, hb5.output, hb5.size, fun k hk => hb5.block k (by have := HV4.out.lt; omega) (by omega) (by simp [Value.ownBlock])⟩
  have HV5 := Lib.hid hV5
  cases hs : sidesK ere L 64 ⟨0, []⟩ with
  | no er p =>
    have HF : Hid (parseL ere L = .error (er, p)) := by rw [Hid, HP.out, hs]
    rw [hs] at hp5
    simp only [faults] at hp5
    subst hp5
    clear hV5 hb5 hb4
    go_wp2_with fail
    refine leaves_cons (f := 48) (args := #[.pointer (some ⟨w.heap.size, 0, none⟩), .pointer (some ⟨w.heap.size + 1, 0, none⟩), .pointer (some ⟨w.heap.size + 1 + 1, 0, none⟩)]) (by simp) (by simp [go_sem]) ?_
    refine (catch_fault _ _ _ er p [] W5 HV5.out.c4 HV5.out.c5 HV5.out.c6 HV5.out.z4 HV5.out.z5 HV5.out.z6 (by omega) (by omega) (by omega)).mono ?_
    rintro e u' w'' ⟨rfl, rfl, rfl⟩
    have hve := ((HV5.out.set (.slice none 0 0) (.int .i64 (er : Nat)) (.int .i64 (p : Nat))).alloc (.cells #[.int .i64 (er : Nat), .int .i64 (p : Nat)] 85)).drew
    exact ⟨_, results_parse rfl rfl rfl hve.c4 hve.c5 hve.c6, by rw [HF.out]; rfl, hve.b⟩
  | ok re t =>
    rw [hs] at hp5
    simp only at hp5
    obtain ⟨v, ev5, rfl, hr5, hn5, hrow5⟩ := hp5
    have htop := sidesK_top hs
    have hgood := nodeN_good re _ _ _ _ _ htop
    have hok := shaped_ok (fun p hp => hgood.2.2 p (Nat.zero_le _) hp)
    have hpos : 0 < re.length := hgood.1
    have hsm := sidesK_small HM.out.u 64 (by simp) hs
    have hri := (sidesK_rise HM.out.u 64 (by simp) hs).le
    obtain ⟨wt, hwt⟩ := weighN_of_nodeN re _ _ _ _ _ _ htop
    obtain ⟨g, cp, rfl, hg1, hnd⟩ := hrow5.nds.at hpos (by simp only at hsm; omega) hok.2
    have HF : Hid (parseL ere L = if 16384 < wt then .error (48, L.length) else .ok re) := by rw [Hid, HP.out, hs]; simp only [hwt]
    have d4 := hV5.c4
    have y4 := hV5.z4
    have l4 : w.heap.size < W5.heap.size := by have := hV5.lt; omega
    have HROW := Lib.hid hrow5
    have HND := Lib.hid hnd
    clear hV5 hr5 hn5 htop hgood hnd hrow5
    go_wp2_with fail
    have hlw := HV4.out.lt
    have hg4 : g ≠ w.heap.size := by omega
    refine (weigh_any hok.1 260 0 (wt, re.length) _ 0 rfl (HND.out.store hg4 _) hwt).mono ?_
    rintro e W7 ⟨rfl, hb7⟩
    have hV6 := HV5.out.set1 (.slice (some ⟨g, 0, none⟩) re.length cp)
    have hV7 := hV6.keep (fun k hk => hb7.block k (by have := hV6.lt; omega)) (hb7.mono hV6.b.size)
    have hN7 := ((HROW.out.nds.mono HV4.out.b.size).store (b := w.heap.size) (fun x hx => by simp only [Value.ownBlock, Option.some.injEq] at hx; omega) (.slice (some ⟨g, 0, none⟩) re.length cp)).below hb7
    have HV7 := Lib.hid hV7
    have HN7 := Lib.hid hN7
    have e4 := hV7.c4
    have e5 := hV7.c5
    have e6 := hV7.c6
    have x4 := hV7.z4
    have x5 := hV7.z5
    have x6 := hV7.z6
    have l7 := hV7.lt
    have l71 : w.heap.size < W7.heap.size := by omega
    have l72 : w.heap.size + 1 < W7.heap.size := by omega
    clear hV6 hV7 hN7 hb7 d4 y4 l4
    by_cases hw : 16384 < wt
    · have HE : Hid (parseL ere L = .error (48, L.length)) := by rw [Hid, HF.out, if_pos hw]
      go_wp2_with fail
      refine leaves_cons (f := 48) (args := #[.pointer (some ⟨w.heap.size, 0, none⟩), .pointer (some ⟨w.heap.size + 1, 0, none⟩), .pointer (some ⟨w.heap.size + 1 + 1, 0, none⟩)]) (by simp) (by simp [go_sem]) ?_
      refine (catch_idle _ _ _ _).mono ?_
      rintro e u' w'' ⟨rfl, rfl, rfl⟩
      have hve := (HV7.out.set (.slice none 0 0) (.int .i64 48) (.int .i64 (L.length : Nat))).alloc (.cells #[.int .i64 0, .int .i64 0] 85)
      exact ⟨_, results_parse rfl rfl rfl hve.c4 hve.c5 hve.c6, by rw [HE.out]; rfl, hve.b⟩
    · have HE : Hid (parseL ere L = .ok re) := by rw [Hid, HF.out, if_neg hw]
      go_wp2_with fail
      refine leaves_cons (f := 48) (args := #[.pointer (some ⟨w.heap.size, 0, none⟩), .pointer (some ⟨w.heap.size + 1, 0, none⟩), .pointer (some ⟨w.heap.size + 1 + 1, 0, none⟩)]) (by simp) (by simp [go_sem]) ?_
      refine (catch_idle _ _ _ _).mono ?_
      rintro e u' w'' ⟨rfl, rfl, rfl⟩
      have hve := (HV7.out.set (.slice (some ⟨g, 0, none⟩) re.length cp) (.int .i64 0) (.int .i64 0)).alloc (.cells #[.int .i64 0, .int .i64 0] 85)
      have n1 : ∀ x, (Value.slice (some ⟨g, 0, none⟩) re.length cp).ownBlock = some x → x ≠ w.heap.size := fun x hx => by simp only [Value.ownBlock, Option.some.injEq] at hx; omega
      have n2 : ∀ x, (Value.slice (some ⟨g, 0, none⟩) re.length cp).ownBlock = some x → x ≠ w.heap.size + 1 := fun x hx => by simp only [Value.ownBlock, Option.some.injEq] at hx; omega
      have n3 : ∀ x, (Value.slice (some ⟨g, 0, none⟩) re.length cp).ownBlock = some x → x ≠ w.heap.size + 1 + 1 := fun x hx => by simp only [Value.ownBlock, Option.some.injEq] at hx; omega
      have hne := (((HN7.out.store n1 (.slice (some ⟨g, 0, none⟩) re.length cp)).store n2 (.int .i64 0)).store n3 (.int .i64 0)).alloc (.cells #[.int .i64 0, .int .i64 0] 85)
      exact ⟨_, results_parse rfl rfl rfl hve.c4 hve.c5 hve.c6, by rw [HE.out]; exact ⟨_, rfl, hne⟩, hve.b⟩
/-- Parse, whatever the list: of its marks nothing is asked where it is too long or empty. -/
theorem parse_call {ere : Bool} {L : List Mk} {oa : Option Addr} {cap : Nat} {w : World} (hm : 0 < L.length → L.length ≤ 4096 → ∃ mb mo, oa = some ⟨mb, mo, none⟩ ∧ MkAt w mb mo L) :
    Calls Tryd.prog 22 #[.bool ere, .slice oa L.length cap] w fun e w' => ParR w (parseL ere L) e w' ∧ Below w.heap.size w w' := by
  by_cases h1 : 4096 < L.length
  · exact parse_long h1
  · by_cases h2 : L.length = 0
    · exact parse_none h2
    · obtain ⟨mb, mo, rfl, h⟩ := hm (by omega) (by omega)
      exact parse_some (by omega) h
end Go.Proofs.YtbdjcmhfcdamiaaDoor

/- Plain laws of the reader: what its errors are like. -/
namespace Go.Proofs.YtbdjcmhfcdamiaaDoor

/-- What an error is like: it is none of nothing, its place is among the marks; some stand at a mark. -/
def Bad (L : List Mk) (e i : Nat) : Prop := e ≠ 0 ∧ i ≤ L.length ∧ (e = 40 ∨ e = 42 ∨ e = 44 ∨ e = 46 ∨ e = 47 → i < L.length)
theorem Bad.mk' {L : List Mk} {e i : Nat} (h0 : e ≠ 0) (h : i < L.length) : Bad L e i := ⟨h0, Nat.le_of_lt h, fun _ => h⟩

theorem f3 {L : List Mk} {e i : Nat} {f : Nat × Nat} (h : (e, i) = f) (h1 : 30 ≤ e) (h2 : e ≤ 32) (h3 : i < L.length) : 30 ≤ f.1 ∧ f.1 ≤ 32 ∧ f.2 < L.length := by
  subst h; exact ⟨h1, h2, h3⟩
theorem nameL_bad {L : List Mk} {at0 b : Nat} (ha : at0 < L.length) (hb : b < L.length) : ∀ (n i : Nat) (s : List Nat) (x : Th) (f : Nat × Nat), nameL L at0 b n i s = (x, some f) → 30 ≤ f.1 ∧ f.1 ≤ 32 ∧ f.2 < L.length
  | 0, _, _, _, _, h => by simp only [nameL, Prod.mk.injEq, Option.some.injEq] at h; exact f3 h.2 (by decide) (by decide) ha
  | n + 1, i, s, x, f, h => by
    unfold nameL at h
    split at h
    · split at h
      · simp only [Prod.mk.injEq, Option.some.injEq] at h; exact f3 h.2 (by decide) (by decide) hb
      · simp at h
    · exact nameL_bad ha hb n _ _ _ _ h
theorem thingTh_bad {L : List Mk} {at0 b : Nat} {x : Th} {f : Nat × Nat} (ha : at0 < L.length) (h : thingTh L at0 b = (x, some f)) : 30 ≤ f.1 ∧ f.1 ≤ 32 ∧ f.2 < L.length := by
  unfold thingTh at h
  split at h
  · simp only [Prod.mk.injEq, Option.some.injEq] at h; exact f3 h.2 (by decide) (by decide) ha
  · rename_i hb
    split at h
    · unfold nameTh at h; exact nameL_bad ha (by omega) _ _ _ _ _ h
    · split at h
      · unfold enclosedTh at h
        repeat' (split at h)
        all_goals first
          | (simp only [Prod.mk.injEq, Option.some.injEq] at h; exact f3 h.2 (by decide) (by decide) (by omega))
          | (simp at h; done)
      · simp at h
theorem thingTh_at {L : List Mk} {at0 b : Nat} {x : Th} (h : thingTh L at0 b = (x, none)) : b < L.length := by
  unfold thingTh at h
  split at h
  · simp at h
  · omega
theorem itemTh_bad {L : List Mk} {at0 b : Nat} {fst : Bool} {x : Th} {f : Nat × Nat} (ha : at0 < L.length) (h : itemTh L at0 b fst = (x, some f)) : 30 ≤ f.1 ∧ f.1 ≤ 32 ∧ f.2 < L.length := by
  unfold itemTh at h
  split at h
  · rename_i hx
    simp only [Prod.mk.injEq, Option.some.injEq] at h
    rw [← h.2]
    exact thingTh_bad ha hx
  · rename_i a hx
    have hb := thingTh_at hx
    repeat' (split at h)
    all_goals first
      | (simp only [Prod.mk.injEq, Option.some.injEq] at h; first | exact f3 h.2 (by decide) (by decide) ha | exact f3 h.2 (by decide) (by decide) hb)
      | (rename_i hy; simp only [Prod.mk.injEq, Option.some.injEq] at h; rw [← h.2]; exact thingTh_bad ha hy)
      | (simp at h; done)
theorem itemsL_bad {L : List Mk} {at0 : Nat} (ha : at0 < L.length) : ∀ (n : Nat) (c : Cls) (i : Nat) (fst : Bool) (f : Nat × Nat), itemsL L at0 n c i fst = .error f → 30 ≤ f.1 ∧ f.1 ≤ 32 ∧ f.2 < L.length
  | 0, _, _, _, _, h => by simp only [itemsL, Except.error.injEq] at h; exact f3 h (by decide) (by decide) ha
  | n + 1, c, i, fst, f, h => by
    unfold itemsL at h
    split at h
    · cases h
    · split at h
      · rename_i hx
        cases h
        exact itemTh_bad ha hx
      · exact itemsL_bad ha n _ _ _ _ h
theorem brackL_bad {L : List Mk} {s : Rst} {e i : Nat} (ha : s.i < L.length) (h : brackL L s = .no e i) : Bad L e i := by
  unfold brackL at h
  split at h
  · rename_i hx
    cases h
    unfold bracketL at hx
    simp only at hx
    split at hx
    · rename_i hy
      cases hx
      have := itemsL_bad ha _ _ _ _ _ hy
      simp only at this
      exact ⟨by omega, by omega, fun _ => by omega⟩
    · cases hx
  · cases h
theorem escapeL_bad {ere : Bool} {L : List Mk} {grp : Rst → Out (List Nd)} {s : Rst} {e i : Nat} (hs : s.i < L.length) (hg : s.i + wideB ere ≤ L.length → grp s = .no e i → Bad L e i) (h : escapeL ere L grp s = .no e i) : Bad L e i := by
  unfold escapeL at h
  split at h
  · cases h; exact Bad.mk' (by decide) hs
  · rename_i hne
    split at h
    · cases h; exact Bad.mk' (by decide) hs
    · simp only at h
      split at h
      · rename_i he
        have hw : wideB ere = 2 := by cases ere <;> simp_all [wideB]
        unfold withTrue at h
        split at h
        · cases h
        · rename_i hx; cases h; exact hg (by omega) hx
      · split at h
        · cases h
        · split at h
          · cases h
          · split at h
            · split at h
              · cases h; exact Bad.mk' (by decide) hs
              · split at h
                · cases h; exact Bad.mk' (by decide) hs
                · cases h
            · cases h; exact Bad.mk' (by decide) hs
theorem atomL_bad {ere first : Bool} {L : List Mk} {grp : Rst → Out (List Nd)} {s : Rst} {e i : Nat} (hs : s.i < L.length) (hg : s.i + wideB ere ≤ L.length → grp s = .no e i → Bad L e i) (h : atomL ere first L grp s = .no e i) : Bad L e i := by
  unfold atomL at h
  simp only at h
  split at h
  · cases h
  · split at h
    · unfold anyL at h; cases h
    · split at h
      · exact brackL_bad hs h
      · split at h
        · exact escapeL_bad hs hg h
        · split at h
          · unfold beginL at h; split at h <;> cases h
          · split at h
            · unfold endL at h; split at h <;> cases h
            · split at h
              · rename_i he
                have hw : wideB ere = 1 := by cases ere <;> simp_all [wideB]
                unfold withTrue at h
                split at h
                · cases h
                · rename_i hx; cases h; exact hg (by omega) hx
              · cases h
theorem intervalL_no {ere : Bool} {L : List Mk} {s : Rst} {e i : Nat} (h : intervalL ere L s = .no e i) : e = 43 ∧ i = s.i := by
  unfold intervalL at h
  obtain ⟨b, hb⟩ : ∃ b, b = (if seesAt L (numL L (s.i + wideB ere)).2 [44] then numL L ((numL L (s.i + wideB ere)).2 + 1) else numL L (s.i + wideB ere)) := ⟨_, rfl⟩
  simp only [← hb] at h
  split at h
  · cases h; exact ⟨rfl, rfl⟩
  · cases h
theorem dupL_bad {ere : Bool} {L : List Mk} {s : Rst} {e i : Nat} (hs : s.i ≤ L.length) (h : dupL ere L s = .no e i) : Bad L e i := by
  unfold dupL at h
  repeat' (split at h)
  all_goals first
    | (cases h; done)
    | (rename_i hx
       cases h
       obtain ⟨rfl, rfl⟩ := intervalL_no hx
       exact ⟨by decide, hs, fun h => by omega⟩)
theorem rowL_bad {ere top : Bool} {L : List Mk} {grp : Rst → Out (List Nd)} (hu : ∀ i, i < L.length → (markAt L i).b < 256) (hg : ∀ s re t, s.i + wideB ere ≤ L.length → grp s = .ok re t → Adv L s t) (hn : ∀ s e i, s.i + wideB ere ≤ L.length → grp s = .no e i → Bad L e i) :
    ∀ (f : Nat) (all : List Nd) (n : Nat) (lead : Bool) (s : Rst) (e i : Nat), L.length < f + s.i → rowL ere top L grp f all n lead s = .no e i → s.i ≤ L.length → Bad L e i
  | 0, _, _, _, s, _, _, hf, _, hs => by omega
  | f + 1, all, n, lead, s, e, i, hf, h, hs => by
    unfold rowL at h
    split at h
    · cases h
    · rename_i hlt
      split at h
      · cases h
      · split at h
        · split at h
          · cases h; exact Bad.mk' (by decide) (by omega)
          · cases h
        · split at h
          · cases h; exact Bad.mk' (by decide) (by omega)
          · split at h
            · rename_i hx
              cases h
              exact atomL_bad (by omega) (fun hw => hn s _ _ hw) hx
            · rename_i re takes u hx
              have h1 := atomL_adv hu (by omega) (fun re t => hg s re t) hx
              have h1l := h1.lt
              have h1e := h1.le
              simp only at h
              split at h
              · rename_i hr
                simp only [Bool.and_eq_true] at hr
                split at h
                · rename_i hd
                  cases h
                  exact dupL_bad h1e hd
                · rename_i d v hd
                  have h2 := dupL_adv hr.2 hd
                  have h2l := h2.lt
                  have h2e := h2.le
                  exact rowL_bad hu hg hn f _ _ _ _ _ _ (by omega) h h2e
              · exact rowL_bad hu hg hn f _ _ _ _ _ _ (by omega) h h1e
theorem sidesL_bad {ere : Bool} {L : List Mk} {row : Rst → Out (Nat × List Nd)} (hr : ∀ s r t, s.i ≤ L.length → row s = .ok r t → Rise L s t) (hn : ∀ s e i, s.i ≤ L.length → row s = .no e i → Bad L e i) :
    ∀ (f : Nat) (all : List Nd) (n : Nat) (s : Rst) (e i : Nat), L.length < f + s.i → s.i ≤ L.length → sidesL ere L row f all n s = .no e i → Bad L e i
  | 0, _, _, s, _, _, hf, hs, _ => by omega
  | f + 1, all, n, s, e, i, hf, hs, h => by
    unfold sidesL at h
    split at h
    · rename_i hx
      cases h
      exact hn _ _ _ hs hx
    · rename_i parts r u hx
      have h1 := hr _ _ _ hs hx
      have h1l := h1.lt
      have h1e := h1.le
      simp only at h
      split at h
      · cases h; exact ⟨by decide, h1e, fun h => by omega⟩
      · split at h
        · cases h
        · rename_i hm
          have hm' : (ere && seesAt L u.i [124]) = true := by simpa using hm
          simp only [Bool.and_eq_true] at hm'
          have h2 := seesAt_le (by simp) hm'.2
          simp only [List.length_singleton] at h2
          exact sidesL_bad hr hn f _ _ _ _ _ (by show L.length < f + (u.i + 1); omega) h2 h
theorem groupL_bad {ere : Bool} {L : List Mk} (hu : ∀ i, i < L.length → (markAt L i).b < 256) : ∀ (k : Nat) (s : Rst) (e i : Nat), s.i + wideB ere ≤ L.length → groupL ere L k s = .no e i → Bad L e i
  | 0, s, e, i, hs, h => by
    have hw := wideB_pos ere
    simp only [groupL, Out.no.injEq] at h
    rw [← h.1, ← h.2]
    exact Bad.mk' (by decide) (by omega)
  | k + 1, s, e, i, hs, h => by
    have hw := wideB_pos ere
    unfold groupL at h
    split at h
    · cases h; exact Bad.mk' (by decide) (by omega)
    · split at h
      · rename_i hx
        cases h
        exact sidesL_bad (fun _ _ _ h0 h => rowS_rise hu k h0 h) (fun s e i h0 h => rowL_bad hu (fun s re t => groupL_adv hu k s re t) (fun s e i => groupL_bad hu k s e i) _ _ _ _ s e i (by omega) h h0) _ _ _ _ _ _ (by omega) (by simpa using hs) hx
      · split at h
        · cases h; exact Bad.mk' (by decide) (by omega)
        · cases h
theorem sidesK_bad {ere : Bool} {L : List Mk} (hu : ∀ i, i < L.length → (markAt L i).b < 256) (k : Nat) {s : Rst} {e i : Nat} (hs : s.i ≤ L.length) (h : sidesK ere L k s = .no e i) : Bad L e i :=
  sidesL_bad (fun _ _ _ h0 h => rowS_rise hu k h0 h) (fun s e i h0 h => rowL_bad hu (fun s re t => groupL_adv hu k s re t) (fun s e i => groupL_bad hu k s e i) _ _ _ _ s e i (by omega) h h0) _ _ _ _ _ _ (by omega) hs h
/-- What Parse refuses. -/
theorem parseL_bad {ere : Bool} {L : List Mk} (hu : ∀ i, i < L.length → (markAt L i).b < 256) {e i : Nat} (h : parseL ere L = .error (e, i)) : Bad L e i := by
  unfold parseL at h
  split at h
  · cases h; exact ⟨by decide, by omega, fun h => by omega⟩
  · split at h
    · cases h; exact ⟨by decide, Nat.zero_le _, fun h => by omega⟩
    · split at h
      · rename_i hx
        cases h
        exact sidesK_bad hu 64 (by simp) hx
      · rename_i re t hx
        obtain ⟨wt, hwt⟩ := weighN_of_nodeN re _ _ _ _ _ _ (sidesK_top hx)
        rw [hwt] at h
        simp only at h
        split at h
        · cases h; exact ⟨by decide, Nat.le_refl _, fun h => by omega⟩
        · cases h
/-- What Parse answers otherwise. -/
theorem parseL_ok {ere : Bool} {L : List Mk} {re : List Nd} (h : parseL ere L = .ok re) : 0 < L.length ∧ L.length ≤ 4096 ∧ ∃ t w, sidesK ere L 64 ⟨0, []⟩ = .ok re t ∧ weighN re 260 0 = some (w, re.length) ∧ w ≤ 16384 := by
  unfold parseL at h
  split at h
  · cases h
  · split at h
    · cases h
    · split at h
      · cases h
      · rename_i re' t hx
        obtain ⟨wt, hwt⟩ := weighN_of_nodeN re' _ _ _ _ _ _ (sidesK_top hx)
        rw [hwt] at h
        simp only at h
        split at h
        · cases h
        · cases h
          exact ⟨by omega, by omega, t, wt, hx, hwt, by omega⟩
/-- What is read is well shaped. -/
theorem parseL_shaped {ere : Bool} {L : List Mk} {re : List Nd} (h : parseL ere L = .ok re) : shapedN re = true := by
  obtain ⟨_, _, t, w, h1, h2, h3⟩ := parseL_ok h
  rw [shapedN, sidesK_top h1]
  simp only [h2, decide_true, Bool.true_and]
  simpa using h3
end Go.Proofs.YtbdjcmhfcdamiaaDoor
