/- Parts: Rb Re Ta Rf Ri. -/
import Derived.Test.YtbdjcmhfcdamiaaGreatDoorQ5
import Derived.Test.YtbdjcmhfcdamiaaGreatDoorQ3
import Derived.Test.YtbdjcmhfcdamiaaGreatDoorQ1
import Derived.WalkSmall
import Derived.Deep.DeepCutAuto
/- Package syntax's reader: its state in memory, and what its functions let go. -/
namespace Go.Proofs.YtbdjcmhfcdamiaaGreatDoor
open Go.RowKit

@[go_sem] theorem cell?_wgr_drew2 (w g : World) (b o : Nat) (s : Option Nat) (h : b < w.heap.size) : (wgr none w.drew.drew g).cell? ⟨b, o, s⟩ = w.cell? ⟨b, o, s⟩ := (keeps_wgr w.drew.drew g).cell _ h (by simp)
@[go_sem] theorem cell?_wgr_drew3 (w g : World) (b o : Nat) (s : Option Nat) (h : b < w.heap.size) : (wgr none w.drew.drew.drew g).cell? ⟨b, o, s⟩ = w.cell? ⟨b, o, s⟩ := (keeps_wgr w.drew.drew.drew g).cell _ h (by simp)
/-- All stays but for two blocks. -/
structure RBut (rb : Nat) (eb : Option Nat) (w w' : World) : Prop where
  os : w'.os = w.os
  tape : w'.tape = w.tape
  output : w'.output = w.output
  size : w.heap.size ≤ w'.heap.size
  block : ∀ k, k < w.heap.size → k ≠ rb → some k ≠ eb → w'.heap[k]? = w.heap[k]?
theorem RBut.refl (rb : Nat) (eb : Option Nat) (w : World) : RBut rb eb w w := ⟨rfl, rfl, rfl, Nat.le_refl _, fun _ _ _ _ => rfl⟩
theorem RBut.of_below {rb : Nat} {eb : Option Nat} {w w' : World} (h : Below w.heap.size w w') : RBut rb eb w w' := ⟨h.os, h.tape, h.output, h.size, fun k hk _ _ => h.block k hk⟩
/-- The later one's second block is the first one's, or a new one. -/
def newOr (w : World) (eb eb' : Option Nat) : Prop := eb' = eb ∨ ∀ g, eb' = some g → w.heap.size ≤ g
theorem newOr.refl (w : World) (eb : Option Nat) : newOr w eb eb := .inl rfl
theorem newOr.ne {w : World} {eb eb' : Option Nat} (h : newOr w eb eb') {k : Nat} (hk : k < w.heap.size) (hne : some k ≠ eb) : some k ≠ eb' := by
  rcases h with rfl | h
  · exact hne
  · intro e; have := h k e.symm; omega
theorem RBut.trans {rb : Nat} {eb eb' : Option Nat} {a b c : World} (h : RBut rb eb a b) (hn : newOr a eb eb') (k : RBut rb eb' b c) : RBut rb eb a c :=
  ⟨k.os.trans h.os, k.tape.trans h.tape, k.output.trans h.output, Nat.le_trans h.size k.size, fun i hi h1 h2 => (k.block i (Nat.lt_of_lt_of_le hi h.size) h1 (hn.ne hi h2)).trans (h.block i hi h1 h2)⟩
theorem newOr.trans {a b : World} {eb eb' eb'' : Option Nat} (h : newOr a eb eb') (hs : a.heap.size ≤ b.heap.size) (k : newOr b eb' eb'') : newOr a eb eb'' := by
  rcases k with rfl | k
  · exact h
  · exact .inr fun g hg => Nat.le_trans hs (k g hg)
theorem RBut.drew {rb : Nat} {eb : Option Nat} {a w : World} (h : RBut rb eb a w) : RBut rb eb a w.drew := ⟨h.os, h.tape, h.output, h.size, h.block⟩
theorem RBut.below {rb : Nat} {eb : Option Nat} {a b c : World} (h : RBut rb eb a b) (k : Below b.heap.size b c) : RBut rb eb a c := h.trans (.inl rfl) (.of_below k)
theorem RBut.store {rb : Nat} {eb : Option Nat} {a b : World} (h : RBut rb eb a b) (o : Nat) (v : Value) : RBut rb eb a (b.setCell ⟨rb, o, none⟩ v) :=
  h.trans (.inl rfl) ⟨rfl, rfl, rfl, by simp [World.setCell], fun k _ h1 _ => Below.heap_setCell _ _ _ _ h1⟩
theorem RBut.alloc {rb : Nat} {eb : Option Nat} {a b : World} (h : RBut rb eb a b) (o : Obj) : RBut rb eb a (b.alloc o) := h.below ((Below.refl _ _).alloc (Nat.le_refl _) _)
theorem RBut.cell {rb : Nat} {eb : Option Nat} {w w' : World} (h : RBut rb eb w w') {p : Addr} (hp : p.block < w.heap.size) (h1 : p.block ≠ rb) (h2 : some p.block ≠ eb) : w'.cell? p = w.cell? p :=
  World.cell?_of_block (w := w) (h.block p.block hp h1 h2)
/-- A row of the call's own stays while its block stays. -/
theorem ownsRow_of_block {w w' : World} {base : Nat} {e : TypeId} {size : Nat} {v : Value} {n : Nat} {xs : List Value} (h : w.ownsRow base e size v n xs) (hb : ∀ g, v.ownBlock = some g → w'.heap[g]? = w.heap[g]?) : w'.ownsRow base e size v n xs := by
  refine ⟨h.1, ?_⟩
  rcases h.2 with hn | ⟨g, cap, cur, rfl, hg, hgg, rest⟩
  · exact .inl hn
  · exact .inr ⟨g, cap, cur, rfl, hg, (hb g rfl).trans hgg, rest⟩
theorem ownsRow_but {rb : Nat} {eb : Option Nat} {w w' : World} {base : Nat} {e : TypeId} {size : Nat} {v : Value} {n : Nat} {xs : List Value} (h : w.ownsRow base e size v n xs) (hb : RBut rb eb w w') (hr : rb < base) (hne : ∀ g, v.ownBlock = some g → some g ≠ eb) : w'.ownsRow base e size v n xs :=
  ownsRow_of_block h fun g hg => hb.block g (h.lt g hg).2 (by have := (h.lt g hg).1; omega) (hne g hg)

section
variable {w w' : World} {rb : Nat} {ere : Bool} {mb mo cap : Nat} {L : List Mk} {s : Rst} {k : Nat} {ev : Value}
theorem cell?_setCell_ne (w : World) (b o p : Nat) (v : Value) (h : p ≠ o) : (w.setCell ⟨b, o, none⟩ v).cell? ⟨b, p, none⟩ = w.cell? ⟨b, p, none⟩ :=
  World.cell?_setCell_other _ _ _ _ (by simp only [ne_eq, Addr.mk.injEq, not_and]; omega)
theorem MkAt.store (h : MkAt w mb mo L) {b : Nat} (hb : mb < b) (o : Nat) (v : Value) : MkAt (w.setCell ⟨b, o, none⟩ v) mb mo L :=
  ⟨by simpa [World.setCell] using h.lt, h.len, fun i hi => (World.cell?_setCell_other _ _ _ _ (by simp only [ne_eq, Addr.mk.injEq, not_and]; omega)).trans (h.b i hi), fun i hi => (World.cell?_setCell_other _ _ _ _ (by simp only [ne_eq, Addr.mk.injEq, not_and]; omega)).trans (h.p i hi), h.u⟩
theorem frozen_store (w : World) (a p : Addr) (v : Value) (h : w.frozen? p = false) : (w.setCell a v).frozen? p = false := by
  rw [World.frozen?_setCell]; exact h
end
end Go.Proofs.YtbdjcmhfcdamiaaGreatDoor

/- Contracts of package syntax's reader: duplication. -/
namespace Go.Proofs.YtbdjcmhfcdamiaaGreatDoor
open Go.RowKit

/-- A node in a block of its own. -/
def ndAt (w : World) (B : Nat) (x : Nd) : Prop := w.heap[B]? = some (.cells (ndCells x) 39 (0, 0))
section
variable {w w' : World} {B : Nat} {x : Nd}
theorem ndAt.lt (h : ndAt w B x) : B < w.heap.size := (Array.getElem?_eq_some_iff.1 h).1
theorem ndAt.is (h : ndAt w B x) : isNd w B := ⟨_, rfl, h⟩
theorem ndAt.block (h : ndAt w B x) (hb : w'.heap[B]? = w.heap[B]?) : ndAt w' B x := hb.trans h
theorem ndAt.below (h : ndAt w B x) (hb : Below w.heap.size w w') : ndAt w' B x := (hb.block B h.lt).trans h
theorem ndAt.store (h : ndAt w B x) {b : Nat} (hb : B ≠ b) (o : Nat) (v : Value) : ndAt (w.setCell ⟨b, o, none⟩ v) B x := (Below.heap_setCell _ _ _ _ hb).trans h
theorem ndAt.cells (h : ndAt w B x) : w.cell? ⟨B, 0, none⟩ = some (.int .i8 x.op) ∧ w.cell? ⟨B, 1, none⟩ = some (.int .u64 x.set.w0.toNat) ∧ w.cell? ⟨B, 2, none⟩ = some (.int .u64 x.set.w1.toNat) ∧ w.cell? ⟨B, 3, none⟩ = some (.int .u64 x.set.w2.toNat) ∧ w.cell? ⟨B, 4, none⟩ = some (.int .u64 x.set.w3.toNat) ∧ w.cell? ⟨B, 5, none⟩ = some (.int .i64 x.n) ∧ w.cell? ⟨B, 6, none⟩ = some (.int .i64 x.min) ∧ w.cell? ⟨B, 7, none⟩ = some (.int .i64 x.max) ∧ w.cell? ⟨B, 8, none⟩ = some (.int .i64 x.kids) ∧ (∀ o, w.frozen? ⟨B, o, none⟩ = false) := by
  have hc : ∀ j, w.cell? ⟨B, j, none⟩ = (ndCells x)[j]? := fun j => cell_of_row w B j _ _ (0, 0) h
  exact ⟨hc 0, hc 1, hc 2, hc 3, hc 4, hc 5, hc 6, hc 7, hc 8, frozen_cls h⟩
end
section
variable {w w' : World} {rb : Nat} {ere : Bool} {mb mo cap : Nat} {L : List Mk} {s : Rst} {k : Nat} {ev : Value}
end
section
variable {w : World} {rb : Nat} {ere : Bool} {mb mo cap : Nat} {L : List Mk} {s : Rst} {k : Nat} {ev : Value}

end
end Go.Proofs.YtbdjcmhfcdamiaaGreatDoor

/- Contracts on lists of nodes in memory: weigh. -/
namespace Go.Proofs.YtbdjcmhfcdamiaaGreatDoor
open Go.RowKit

/-- Nodes in memory. -/
structure NdAt (w : World) (nb no : Nat) (re : List Nd) : Prop where
  lt : nb < w.heap.size
  len : re.length ≤ 4294967296
  c : ∀ i, i < re.length → ∀ j, w.cell? ⟨nb, no + i * 9 + j, none⟩ = (ndCells (re.getD i Nd.zero))[j]? ∨ 9 ≤ j
  k : ∀ x ∈ re, x.kids ≤ 9223372036854775807
theorem NdAt.below {w w' : World} {nb no : Nat} {re : List Nd} (h : NdAt w nb no re) (hb : Below w.heap.size w w') : NdAt w' nb no re :=
  ⟨Nat.lt_of_lt_of_le h.lt hb.size, h.len, fun i hi j => (h.c i hi j).imp (fun e => (hb.cell (p := ⟨nb, no + i * 9 + j, none⟩) h.lt).trans e) id, h.k⟩
theorem NdAt.cells {w : World} {nb no : Nat} {re : List Nd} (h : NdAt w nb no re) {i : Nat} {x : Nd} (hx : re[i]? = some x) :
    w.cell? ⟨nb, no + i * 9, none⟩ = some (.int .i8 x.op) ∧ w.cell? ⟨nb, no + i * 9 + 1, none⟩ = some (.int .u64 x.set.w0.toNat) ∧ w.cell? ⟨nb, no + i * 9 + 2, none⟩ = some (.int .u64 x.set.w1.toNat) ∧ w.cell? ⟨nb, no + i * 9 + 3, none⟩ = some (.int .u64 x.set.w2.toNat) ∧ w.cell? ⟨nb, no + i * 9 + 4, none⟩ = some (.int .u64 x.set.w3.toNat) ∧
    w.cell? ⟨nb, no + i * 9 + 5, none⟩ = some (.int .i64 x.n) ∧ w.cell? ⟨nb, no + i * 9 + 6, none⟩ = some (.int .i64 x.min) ∧ w.cell? ⟨nb, no + i * 9 + 7, none⟩ = some (.int .i64 x.max) ∧ w.cell? ⟨nb, no + i * 9 + 8, none⟩ = some (.int .i64 x.kids) := by
  have hi : i < re.length := (List.getElem?_eq_some_iff.1 hx).1
  have hg : re.getD i Nd.zero = x := by simp [List.getD_eq_getElem?_getD, hx]
  have hc : ∀ j, j < 9 → w.cell? ⟨nb, no + i * 9 + j, none⟩ = (ndCells x)[j]? := fun j hj => by
    rw [← hg]; exact (h.c i hi j).resolve_right (by omega)
  exact ⟨hc 0 (by decide), hc 1 (by decide), hc 2 (by decide), hc 3 (by decide), hc 4 (by decide), hc 5 (by decide), hc 6 (by decide), hc 7 (by decide), hc 8 (by decide)⟩

/-- The repetitions' numbers are small. -/
def RepOk (re : List Nd) : Prop := ∀ x ∈ re, x.op = 6 → 0 ≤ x.min ∧ x.min ≤ 255 ∧ -1 ≤ x.max ∧ x.max ≤ 255
theorem kidsW_bounds {re : List Nd} {g : Nat → Option (Int × Nat)} (hg : ∀ i r, g i = some r → 1 ≤ r.1 ∧ r.1 ≤ 16385 ∧ i < r.2 ∧ r.2 ≤ re.length) : ∀ (k : Nat) (sum : Int) (i : Nat) (r : Int × Nat), 0 ≤ sum → sum ≤ 16385 → i ≤ re.length → kidsW g k sum i = some r → 0 ≤ r.1 ∧ r.1 ≤ 16385 ∧ i ≤ r.2 ∧ r.2 ≤ re.length
  | 0, sum, i, r, h1, h2, h3, h => by simp only [kidsW, Option.some.injEq] at h; subst h; exact ⟨h1, h2, Nat.le_refl _, h3⟩
  | k + 1, sum, i, r, h1, h2, h3, h => by
    unfold kidsW at h
    split at h
    · cases h
    · rename_i w nx hx
      have h4 := hg _ _ hx
      simp only at h4
      have h5 := kidsW_bounds hg k _ _ _ (by omega) (by omega) h4.2.2.2 h
      omega
theorem weighN_bounds {re : List Nd} (hr : RepOk re) : ∀ (f i : Nat) (r : Int × Nat), weighN re f i = some r → 1 ≤ r.1 ∧ r.1 ≤ 16385 ∧ i < r.2 ∧ r.2 ≤ re.length
  | 0, _, _, h => by simp [weighN] at h
  | f + 1, i, r, h => by
    unfold weighN at h
    split at h
    · cases h
    · rename_i n hn
      have hi : i < re.length := (List.getElem?_eq_some_iff.1 hn).1
      split at h
      · cases h
      · rename_i sm nx hk
        have h1 := kidsW_bounds (re := re) (fun i r => weighN_bounds hr f i r) _ _ _ _ (by omega) (by omega) (by omega) hk
        simp only at h1
        cases h
        have ht : 0 ≤ timesN n := by
          unfold timesN
          split
          · rename_i h6
            have := hr n (List.mem_of_getElem? hn) h6
            split <;> omega
          · omega
        have hm := Int.mul_nonneg ht h1.1
        simp only
        omega

set_option maxRecDepth 100000 in
set_option maxHeartbeats 1600000 in
theorem weigh_any {re : List Nd} {nb no cap : Nat} (hr : RepOk re) : ∀ (f i : Nat) (r : Int × Nat) (w : World) (iv : Int), iv = i → NdAt w nb no re → weighN re f i = some r →
    Calls Tryz.prog 58 #[.slice (some ⟨nb, no, none⟩) re.length cap, .int .i64 iv] w fun e w' => e = .returned (.tuple #[.int .i64 r.1, .int .i64 (r.2 : Nat)]) ∧ Below w.heap.size w w'
  | 0, _, _, _, _, _, _, h => by simp [weighN] at h
  | f + 1, i, r, w, iv, hiv, hn, h => by
    subst hiv
    have ih := fun (i : Nat) (r : Int × Nat) (w : World) (iv : Int) (hiv : iv = i) (h : NdAt w nb no re) (hw : weighN re f i = some r) => weigh_any (cap := cap) hr f i r w iv hiv h hw
    have hbn := Lib.hid (fun i r => weighN_bounds hr f i r)
    have hb := weighN_bounds hr _ _ _ h
    unfold weighN at h
    cases hx : re[i]? with
    | none => rw [hx] at h; cases h
    | some n =>
      rw [hx] at h
      simp only at h
      have hi : i < re.length := (List.getElem?_eq_some_iff.1 hx).1
      have hi' : (i : Int) < (re.length : Int) := by omega
      have hlen := hn.len
      obtain ⟨c0, c1, c2, c3, c4, c5, c6, c7, c8⟩ := hn.cells hx
      have nbl := hn.lt
      have hmem := List.mem_of_getElem? hx
      have hkm := hn.k n hmem
      have hrn := Lib.hid (hr n hmem)
      obtain ⟨op, ⟨x0, x1, x2, x3⟩, xn, xmin, xmax, xk⟩ := n
      simp only at c0 c1 c2 c3 c4 c5 c6 c7 c8 hkm hrn h
      have HN := Lib.hid hn
      have HIH := Lib.hid ih
      have H := Lib.hid h
      clear ih hn hx h
      cases hk : kidsW (weighN re f) xk.toNat 0 (i + 1) with
      | none => have := H.out; rw [hk] at this; cases this
      | some q =>
      obtain ⟨sm, nx⟩ := q
      have HQ := H.out
      rw [hk] at HQ
      simp only [Option.some.injEq] at HQ
      have HK := Lib.hid hk
      clear hk H hb
      subst HQ
      simp only
      have hx0 := xk.toNat
      go_enter Tryz.func58, Tryz.ntmps58
      go_wp2_with fail
      go_loopg [7, 8, 19] xk.toNat (fun g s t j wr => ∃ (sum : Int) (p d : Nat), s = .int .i64 sum ∧ t = .int .i64 (p : Nat) ∧ j = .int .i64 (d : Nat) ∧ g = xk.toNat - d ∧ d ≤ xk.toNat ∧ 0 ≤ sum ∧ sum ≤ 16385 ∧ p ≤ re.length ∧ Below w.heap.size w wr ∧ ndAt wr w.heap.size ⟨op, ⟨x0, x1, x2, x3⟩, xn, xmin, xmax, xk⟩ ∧
        Hid (kidsW (weighN re f) (xk.toNat - d) sum p = some (sm, nx)))
      case atStart => exact ⟨0, i + 1, 0, rfl, by go_num, rfl, by omega, by omega, by omega, by omega, by omega, (Below.refl _ _).alloc (Nat.le_refl _) _, heap_alloc_new _ _, HK.out⟩
      case round =>
        obtain ⟨sum, p, d, rfl, rfl, rfl, hg, hd, hs1, hs2, hp, hbe, hnd, HS⟩ := hrel
        have HG := Lib.hid hg
        clear hg
        by_cases hlt : d < xk.toNat
        · have hlt' : (d : Int) < xk := by omega
          have HS1 := HS.out
          rw [show xk.toNat - d = (xk.toNat - (d + 1)) + 1 by omega, kidsW] at HS1
          cases hw : weighN re f p with
          | none => rw [hw] at HS1; cases HS1
          | some q =>
            obtain ⟨w2, n2⟩ := q
            rw [hw] at HS1
            simp only at HS1
            have hb2 := hbn.out _ _ hw
            simp only at hb2
            have HSZ := Lib.hid HS1
            have hih := HIH.out p (w2, n2) wr p rfl (HN.out.below hbe) hw
            have HB := Lib.hid hbe
            have HD := Lib.hid hnd
            clear HS1 hw hbe hnd HS
            go_wp2_with fail
            refine hih.mono ?_; rintro e w3 ⟨rfl, hb3⟩
            have HB3 := Lib.hid (HB.out.trans (hb3.mono HB.out.size))
            have HD3 := Lib.hid (HD.out.below hb3)
            clear hih hb3
            by_cases hm : 16385 < sum + w2
            · have he : min (sum + w2) 16385 = 16385 := by omega
              rw [he] at HSZ
              clear he
              go_wp2_with fail
              go_roundg (xk.toNat - (d + 1))
              case measure => have := HG.out; omega
              case rel => exact ⟨16385, n2, d + 1, rfl, rfl, by go_num, rfl, by omega, by omega, by omega, hb2.2.2.2, HB3.out, HD3.out, HSZ.out⟩
            · have he : min (sum + w2) 16385 = sum + w2 := by omega
              rw [he] at HSZ
              clear he
              go_wp2_with fail
              go_roundg (xk.toNat - (d + 1))
              case measure => have := HG.out; omega
              case rel => exact ⟨sum + w2, n2, d + 1, rfl, rfl, by go_num, rfl, by omega, by omega, by omega, hb2.2.2.2, HB3.out, HD3.out, HSZ.out⟩
        · have hlt' : ¬ (d : Int) < xk := by omega
          have HS1 := HS.out
          rw [show xk.toNat - d = 0 by omega, kidsW] at HS1
          simp only [Option.some.injEq, Prod.mk.injEq] at HS1
          obtain ⟨e1, e2⟩ := HS1
          subst e1 e2
          obtain ⟨d0, d1, d2, d3, d4, d5, d6, d7, d8, g0⟩ := hnd.cells
          simp only at d0 d1 d2 d3 d4 d5 d6 d7 d8
          have hBl := hnd.lt
          have HB := Lib.hid hbe
          clear hnd hbe HS
          by_cases h6 : op = 6
          · have hr6 := hrn.out h6
            subst h6
            by_cases hmx : xmax < 0
            · have ht : timesN ⟨6, ⟨x0, x1, x2, x3⟩, xn, xmin, xmax, xk⟩ = xmin + 1 := by simp [timesN, hmx]
              have hmul : 0 ≤ sum * (xmin + 1) ∧ sum * (xmin + 1) ≤ 16385 * 256 := ⟨Int.mul_nonneg hs1 (by omega), Int.mul_le_mul hs2 (by omega) (by omega) (by omega)⟩
              have HT := Lib.hid (show timesN ⟨6, ⟨x0, x1, x2, x3⟩, xn, xmin, xmax, xk⟩ * sum = sum * (xmin + 1) from by rw [ht]; exact Int.mul_comm _ _)
              clear ht
              by_cases hm : 16385 < sum * (xmin + 1) + 1
              · go_wp2_with fail
                go_ret2
                exact ⟨by rw [HT.out, show min (sum * (xmin + 1) + 1) 16385 = 16385 by omega]; rfl, HB.out⟩
              · go_wp2_with fail
                go_ret2
                exact ⟨by rw [HT.out, show min (sum * (xmin + 1) + 1) 16385 = sum * (xmin + 1) + 1 by omega]; rfl, HB.out⟩
            · by_cases h1 : xmax < 1
              · have ht : timesN ⟨6, ⟨x0, x1, x2, x3⟩, xn, xmin, xmax, xk⟩ = 1 := by simp only [timesN, if_true, if_neg hmx]; omega
                have HT := Lib.hid (show timesN ⟨6, ⟨x0, x1, x2, x3⟩, xn, xmin, xmax, xk⟩ * sum = sum from by rw [ht]; exact Int.one_mul _)
                clear ht
                by_cases hm : 16385 < sum + 1
                · go_wp2_with fail
                  go_ret2
                  exact ⟨by rw [HT.out, show min (sum + 1) 16385 = 16385 by omega]; rfl, HB.out⟩
                · go_wp2_with fail
                  go_ret2
                  exact ⟨by rw [HT.out, show min (sum + 1) 16385 = sum + 1 by omega]; rfl, HB.out⟩
              · have ht : timesN ⟨6, ⟨x0, x1, x2, x3⟩, xn, xmin, xmax, xk⟩ = xmax := by simp only [timesN, if_true, if_neg hmx]; omega
                have hmul : 0 ≤ sum * xmax ∧ sum * xmax ≤ 16385 * 255 := ⟨Int.mul_nonneg hs1 (by omega), Int.mul_le_mul hs2 (by omega) (by omega) (by omega)⟩
                have HT := Lib.hid (show timesN ⟨6, ⟨x0, x1, x2, x3⟩, xn, xmin, xmax, xk⟩ * sum = sum * xmax from by rw [ht]; exact Int.mul_comm _ _)
                clear ht
                by_cases hm : 16385 < sum * xmax + 1
                · go_wp2_with fail
                  go_ret2
                  exact ⟨by rw [HT.out, show min (sum * xmax + 1) 16385 = 16385 by omega]; rfl, HB.out⟩
                · go_wp2_with fail
                  go_ret2
                  exact ⟨by rw [HT.out, show min (sum * xmax + 1) 16385 = sum * xmax + 1 by omega]; rfl, HB.out⟩
          · have ht : timesN ⟨op, ⟨x0, x1, x2, x3⟩, xn, xmin, xmax, xk⟩ = 1 := by simp [timesN, h6]
            have HT := Lib.hid (show timesN ⟨op, ⟨x0, x1, x2, x3⟩, xn, xmin, xmax, xk⟩ * sum = sum from by rw [ht]; exact Int.one_mul _)
            clear ht
            by_cases hm : 16385 < sum + 1
            · go_wp2_with fail
              go_ret2
              exact ⟨by rw [HT.out, show min (sum + 1) 16385 = 16385 by omega]; rfl, HB.out⟩
            · go_wp2_with fail
              go_ret2
              exact ⟨by rw [HT.out, show min (sum + 1) 16385 = sum + 1 by omega]; rfl, HB.out⟩
end Go.Proofs.YtbdjcmhfcdamiaaGreatDoor

/- Contracts of package syntax's reader: anything, bracket, begin, end. -/
namespace Go.Proofs.YtbdjcmhfcdamiaaGreatDoor
open Go.RowKit

theorem ownsRow_mono {w : World} {base base' : Nat} {e : TypeId} {size : Nat} {v : Value} {n : Nat} {xs : List Value} (h : w.ownsRow base e size v n xs) (hb : base' ≤ base) : w.ownsRow base' e size v n xs := by
  refine ⟨h.1, ?_⟩
  rcases h.2 with h2 | ⟨g, cap, cur, hv, hg, r⟩
  · exact .inl h2
  · exact .inr ⟨g, cap, cur, hv, Nat.le_trans hb hg, r⟩
section
variable {w : World} {rb : Nat} {ere : Bool} {mb mo cap : Nat} {L : List Mk} {s : Rst} {k : Nat} {ev : Value}
end
end Go.Proofs.YtbdjcmhfcdamiaaGreatDoor

/- Package syntax's reader: lists of nodes of the code's own; the groups' list goes on. -/
namespace Go.Proofs.YtbdjcmhfcdamiaaGreatDoor
open Go.RowKit

/-- The cells of nodes. -/
def ndsC (re : List Nd) : List Value := re.flatMap fun x => (ndCells x).toList
theorem ndsC_length : ∀ re : List Nd, (ndsC re).length = re.length * 9
  | [] => rfl
  | x :: l => by
    have h := ndsC_length l
    simp only [ndsC, List.flatMap_cons, List.length_append, List.length_cons] at h ⊢
    rw [h]
    simp only [ndCells, List.length_cons, List.length_nil]
    omega
theorem ndsC_append (a b : List Nd) : ndsC (a ++ b) = ndsC a ++ ndsC b := by simp [ndsC]
theorem ndsC_cons (x : Nd) (b : List Nd) : ndsC (x :: b) = (ndCells x).toList ++ ndsC b := rfl
theorem ndsC_one (re : List Nd) : ∀ u ∈ ndsC re, u.oneCell' = true := by
  intro u hu
  simp only [ndsC, List.mem_flatMap] at hu
  obtain ⟨x, _, hu⟩ := hu
  simp only [ndCells, List.mem_cons, List.not_mem_nil, or_false] at hu
  rcases hu with rfl | rfl | rfl | rfl | rfl | rfl | rfl | rfl | rfl <;> rfl
theorem elNd : ElT Tryz.prog 22 39 9 72 (.agg #[.int .i8 0, .int .u64 0, .int .u64 0, .int .u64 0, .int .u64 0, .int .i64 0, .int .i64 0, .int .i64 0, .int .i64 0]) := ⟨Tryz.underlying22, by kernel_rfl, rfl, by decide⟩
theorem elBo : ElT Tryz.prog 93 4 1 1 (.bool false) := ⟨Tryz.underlying93, by kernel_rfl, rfl, by decide⟩
/-- Nodes of the call's own. -/
def Nds (w : World) (base : Nat) (v : Value) (re : List Nd) : Prop := w.ownsRow base 39 9 v re.length (ndsC re)
theorem Nds.nil (w : World) (base : Nat) : Nds w base (.slice none 0 0) [] := World.ownsRow_nil _ _ _ _
theorem Nds.src {w : World} {base : Nat} {v : Value} {re : List Nd} (h : Nds w base v re) : Src w v re.length (ndsC re) := Src.own h
theorem Nds.lt {w : World} {base : Nat} {v : Value} {re : List Nd} (h : Nds w base v re) : ∀ g, v.ownBlock = some g → base ≤ g ∧ g < w.heap.size := World.ownsRow.lt h
theorem Nds.block {w w' : World} {base : Nat} {v : Value} {re : List Nd} (h : Nds w base v re) (hb : ∀ g, v.ownBlock = some g → w'.heap[g]? = w.heap[g]?) : Nds w' base v re := ownsRow_of_block h hb
theorem Nds.below {w w' : World} {base : Nat} {v : Value} {re : List Nd} (h : Nds w base v re) (hb : Below w.heap.size w w') : Nds w' base v re := h.block fun g hg => hb.block g (h.lt g hg).2
theorem Nds.drew {w : World} {base : Nat} {v : Value} {re : List Nd} (h : Nds w base v re) : Nds w.drew base v re := World.ownsRow.drew h
theorem Nds.but {w w' : World} {rb base : Nat} {eb : Option Nat} {v : Value} {re : List Nd} (h : Nds w base v re) (hb : RBut rb eb w w') (hr : rb < base) (hne : ∀ g, v.ownBlock = some g → some g ≠ eb) : Nds w' base v re := ownsRow_but h hb hr hne
theorem Nds.mono {w : World} {base base' : Nat} {v : Value} {re : List Nd} (h : Nds w base v re) (hb : base' ≤ base) : Nds w base' v re := ownsRow_mono h hb
section
variable {w w' : World} {rb : Nat} {ere : Bool} {mb mo cap : Nat} {L : List Mk} {s : Rst} {k : Nat} {ev : Value}
/-- The list's own block goes on or is new. -/
theorem newOr.grown {w : World} {eb eb' : Option Nat} (h : eb' = eb ∨ eb' = some w.heap.size) : newOr w eb eb' := by
  rcases h with h | h
  · exact .inl h
  · exact .inr fun g hg => by rw [h] at hg; cases hg; exact Nat.le_refl _
theorem RBut.grown {eb : Option Nat} {w0 : World} (h : RBut rb eb w0 w) {eb' : Option Nat} (hn : newOr w0 eb eb') (hg : w.grownBy w' eb') : RBut rb eb w0 w' :=
  h.trans hn ⟨hg.os, hg.tape, hg.output, hg.size, fun i hi _ h2 => hg.block i hi h2⟩
theorem RBut.beside {eb : Option Nat} {w0 : World} (h : RBut rb eb w0 w) {row : Option Nat} (hg : w.grownBy w' row) (hr : ∀ g, row = some g → w0.heap.size ≤ g) : RBut rb eb w0 w' :=
  ⟨hg.os.trans h.os, hg.tape.trans h.tape, hg.output.trans h.output, Nat.le_trans h.size hg.size, fun i hi h1 h2 => (hg.block i (Nat.lt_of_lt_of_le hi h.size) (fun e => by have := hr i e.symm; omega)).trans (h.block i hi h1 h2)⟩
theorem RBut.note {eb eb' : Option Nat} {w0 : World} (h : RBut rb eb w0 w) (hn : newOr w0 eb eb') {g : Nat} (hg : eb' = some g) (j : Nat) (v : Value) : RBut rb eb w0 (w.setCell ⟨g, j, Option.none⟩ v) :=
  h.trans hn ⟨rfl, rfl, rfl, by simp [World.setCell], fun i _ _ h2 => Below.heap_setCell _ _ _ _ (fun e => h2 (by rw [hg, e]))⟩
end
end Go.Proofs.YtbdjcmhfcdamiaaGreatDoor
