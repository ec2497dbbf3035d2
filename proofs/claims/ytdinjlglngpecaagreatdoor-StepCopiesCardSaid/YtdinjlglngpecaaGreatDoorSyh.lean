/- What the walk of StepCopies shares. No condition. -/
import Derived.Test.YtdinjlglngpecaaGreatDoorSs
import Derived.Test.YtdinjlglngpecaaGreatDoorSyg
namespace Go.Proofs.YtdinjlglngpecaaGreatDoor
open Go.RowKit

section
variable {LL : List Lin} {nc : Nat} {q : Bool}
theorem perL_len (T : List Nat) : (perL nc q T).length ≤ 2 * (T.length + 1) := by
  unfold perL
  rw [List.length_append]
  have h1 : (bif nc == 1 then T ++ [10] else []).length ≤ T.length + 1 := by cases nc == 1 <;> simp
  have h2 : (bif q then [] else T ++ [10]).length ≤ T.length + 1 := by cases q <;> simp
  omega
theorem flat_len : ∀ (LL : List Lin), ((LL.map (·.T)).flatMap (perL nc q)).length ≤ 2 * (((LL.map fun l => l.T.length)).sum + LL.length)
  | [] => by simp
  | l :: r => by
    have h := flat_len r
    have h2 := perL_len (nc := nc) (q := q) l.T
    simp only [List.map_cons, List.flatMap_cons, List.length_append, List.sum_cons, List.length_cons]
    omega
theorem flat_tot {m : Nat} (hm : LL.length = m) (ht : m + totL LL m ≤ 2147483647) : ((LL.map (·.T)).flatMap (perL nc q)).length ≤ 4294967294 := by
  have h := flat_len (nc := nc) (q := q) LL
  unfold totL at ht
  rw [← hm, List.take_length] at ht
  omega
theorem per_quiet : perL 1 true = perL 0 false := by funext T; simp [perL]
end
theorem mul3 {i n : Nat} (h : i ≤ 2147483647) (hn : 3 * i = n) (w : World) : (binOp .mul 3 (.int .i64 3) (.int .i64 (i : Nat))).run Tryz.prog w = .ok (.int .i64 (n : Nat)) w := by
  rw [binOp_mul]
  have h1 : (3 : Int) * (i : Int) = (n : Int) := by omega
  have h3 : IntKind.i64.wrap (n : Int) = (n : Int) := by
    simp [IntKind.wrap, IntKind.signed, IntKind.bits]
    omega
  unfold Op.intArith
  simp only [h1]
  rw [h3]
  rfl
/-- Two rows of bytes that grow. -/
structure CpR (w0 w : World) (v4 v5 : Value) (A B : List Nat) : Prop where
  be : Below w0.heap.size w0 w
  r4 : w.ownsRow w0.heap.size 5 1 v4 A.length (u8s A)
  r5 : w.ownsRow w0.heap.size 5 1 v5 B.length (u8s B)
  ne : ∀ x, v4.ownBlock = some x → v5.ownBlock ≠ some x
section
variable {w0 w w' : World} {v4 v5 v' : Value} {A B X : List Nat}
theorem CpR.swap (h : CpR w0 w v4 v5 A B) : CpR w0 w v5 v4 B A := ⟨h.be, h.r5, h.r4, fun x hx e => h.ne x e hx⟩
theorem CpR.below (h : CpR w0 w v4 v5 A B) (hb : Below w.heap.size w w') : CpR w0 w' v4 v5 A B :=
  ⟨h.be.trans (hb.mono h.be.size), ownsRow_of_block h.r4 fun k hk => hb.block k (h.r4.lt k hk).2, ownsRow_of_block h.r5 fun k hk => hb.block k (h.r5.lt k hk).2, h.ne⟩
theorem CpR.app (h : CpR w0 w v4 v5 A B) (hg : w.grownBy w' v4.ownBlock) (ho : w'.ownsRow w0.heap.size 5 1 v' (A.length + X.length) (u8s A ++ u8s X)) (hor : v'.ownBlock = v4.ownBlock ∨ v'.ownBlock = some w.heap.size) : CpR w0 w' v' v5 (A ++ X) B :=
  ⟨Below.grown h.be hg h.be.size (fun k hk => (h.r4.lt k hk).1), by rw [List.length_append, show u8s (A ++ X) = u8s A ++ u8s X by simp [u8s]]; exact ho, (Kept.of_grown hg).row h.r5 (fun x hx e => h.ne x e.symm hx), fun x hx e => by
    rcases hor with q | q
    · exact h.ne x (q ▸ hx) e
    · have h1 := Option.some.inj (q.symm.trans hx)
      have h2 := (h.r5.lt x e).2
      omega⟩
theorem lnb_of {oa : Option Addr} {LL : List Lin} (h : LnM w oa LL) : LnB w w.heap.size oa LL := fun hp => by
  obtain ⟨nb, no, h1, h2, h3⟩ := h hp
  refine ⟨nb, no, h1, h2, fun i l hl => ?_⟩
  obtain ⟨e1, e2, e3, _⟩ := h3 i l hl
  refine ⟨e1, e3, fun hq => ?_⟩
  obtain ⟨g, o, q1, q2, q3⟩ := e2 hq
  exact ⟨g, o, q1, q2, q3⟩
theorem PrB.setQ {b : Nat} {v0 v1 v2 : Value} {q : Bool} (h : PrB w b v0 v1 v2 q) (q' : Bool) : PrB (w.setCell ⟨b, 3, none⟩ (.bool q')) b v0 v1 v2 q' :=
  ⟨by simpa [World.setCell] using h.lt, (World.cell?_setCell_other _ _ _ _ (by intro e; cases e)).trans h.c0, (World.cell?_setCell_other _ _ _ _ (by intro e; cases e)).trans h.c1, (World.cell?_setCell_other _ _ _ _ (by intro e; cases e)).trans h.c2, World.cell?_setCell_same _ _ _ h.c3, fun o => (World.frozen?_setCell _ _ _ _).trans (h.fz o)⟩
theorem StS.keep {k : CK} {s : CS} {T : List Nat} {pk : Option Nat} {base : Nat} {mu : Bool} {oa : Option Addr} {m ca n u z : Nat} {O : Nat → Option Nat} (h : StS w k s T pk base mu oa m ca n u z O A) {S : Nat → Prop} (hk : Kept w w' S) (hS : ∀ x, x < w.heap.size → S x → ¬ sfoot k O pk x) : StS w' k s T pk base mu oa m ca n u z O A :=
  ⟨h.ma.keep hk fun x hx e q => hS x hx e (.inr (.inr q)), h.wl.keep hk fun x hx e => ⟨fun q => hS x hx e (.inl q), fun q => hS x hx e (.inr (.inl q))⟩, h.blt, h.bq, h.dj⟩
/-- The footprint of a machine anew, and its world. -/
theorem sfoot0 {k : CK} {x : Nat} (h : sfoot k (fun _ => none) none x) : x = k.wb ∨ (k.qb ≤ x ∧ x ≤ k.mb) := by
  rcases h with h | h | h
  · exact .inl h
  · obtain ⟨i, _, e⟩ := h; cases e
  · rcases h with h | h
    · exact .inr h
    · cases h
theorem CpR.keep (h : CpR w0 w v4 v5 A B) {S : Nat → Prop} (hk : Kept w w' S) (hS : ∀ x, x < w.heap.size → S x → w0.heap.size ≤ x ∧ v4.ownBlock ≠ some x ∧ v5.ownBlock ≠ some x) : CpR w0 w' v4 v5 A B :=
  ⟨h.be.trans (hk.below (k := w0.heap.size) h.be.size fun j hj e => by have := (hS j (Nat.lt_of_lt_of_le hj h.be.size) e).1; omega), hk.row h.r4 fun x hx e => (hS x (h.r4.lt x hx).2 e).2.1 hx, hk.row h.r5 fun x hx e => (hS x (h.r5.lt x hx).2 e).2.2 hx, h.ne⟩
/-- What a world's output is, at last. -/
structure FinR (w : World) (b : Nat) (A : List Nat) (lo : Nat) : Prop where
  lt : b < w.heap.size
  c : ∃ oA cA, w.cell? ⟨b, 19, none⟩ = some (.slice oA A.length cA) ∧ w.ownsRow lo 5 1 (.slice oA A.length cA) A.length (u8s A)
theorem FinR.keep {b lo : Nat} (h : FinR w b A lo) {S : Nat → Prop} (hk : Kept w w' S) (hb : ¬ S b) (hl : ∀ x, lo ≤ x → x < w.heap.size → ¬ S x) : FinR w' b A lo := by
  obtain ⟨oA, cA, e1, e2⟩ := h.c
  exact ⟨Nat.lt_of_lt_of_le h.lt hk.size, oA, cA, (hk.cell (p := ⟨b, 19, none⟩) h.lt hb).trans e1, hk.row e2 fun x hx => hl x (e2.lt x hx).1 (e2.lt x hx).2⟩
theorem FinR.below {b lo : Nat} (h : FinR w b A lo) (hb : Below w.heap.size w w') : FinR w' b A lo :=
  h.keep (Kept.of_below hb (fun x => w.heap.size ≤ x) fun _ e _ => e) (by have := h.lt; omega) fun x _ h2 => by omega
variable {k : CK} {s : CS} {T : List Nat} {pk : Option Nat} {base : Nat} {oa : Option Addr} {m ca n u z : Nat} {O : Nat → Option Nat}
theorem FinR.of_run (h : StS w' k s T pk base true oa m ca n u z O A) (hg : Grw w w' (sfoot k (fun _ => none) none) (sfoot k O pk)) : FinR w' k.wb A w.heap.size := by
  refine ⟨h.wl.lt, ?_⟩
  obtain ⟨v, x, cs, q1, q2, q3, q4, _⟩ := h.wl.rows 19 (by simp [rowsL])
  obtain ⟨rfl, rfl⟩ := q4 rfl
  obtain ⟨oA, cA, rfl⟩ := own_form q2
  have hfr : ∀ y, foot O y → w.heap.size ≤ y := fun y hy => by
    rcases hg.grow y (.inr (.inl hy)) with e | e
    · rcases e with e | e | e
      · have := (h.wl.footLt hy).1; have := h.blt; omega
      · obtain ⟨i, _, e⟩ := e; cases e
      · rcases e with e | e
        · exact absurd (.inl e) (h.dj y hy)
        · cases e
    · exact e
  refine ⟨oA, cA, q1, ⟨q2.1, ?_⟩⟩
  rcases q2.2 with h2 | ⟨g, cap, cur, hv, _, r⟩
  · exact .inl h2
  · refine .inr ⟨g, cap, cur, hv, hfr g ⟨19, by simp [rowsL], ?_⟩, r⟩
    rw [← q3, hv]
    rfl
end
end Go.Proofs.YtdinjlglngpecaaGreatDoor
