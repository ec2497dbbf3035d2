/- What the walks of the step seat share: blocks, rows of the code's own, append; copied out of other texts by pick.py. No condition. -/
import Derived.Test.YtdinjlglngpecaaGreatDoorMix
import Derived.Lib.Hide
import Derived.LoopN
import Derived.Maps.AppendAt
import Derived.Laws.AppendOwnNone
import Derived.Laws.BytesArg
import Derived.Deep.WholeRow
import Derived.Deep.MidRow
import Derived.Laws.OwnMore
namespace Go.Proofs.YtdinjlglngpecaaGreatDoor
open Go.RowKit

theorem frozen_cls {w : World} {B T : Nat} {cs : Array Value} (h : w.heap[B]? = some (.cells cs T (0, 0))) (j : Nat) : w.frozen? ⟨B, j, none⟩ = false := by
  simp [World.frozen?, h]
theorem ret_bool {a b : Bool} (h : a = b) : Ending.returned (.bool a) = .returned (.bool b) := by rw [h]
/-- A row of the call's own stays while its block stays. -/
theorem ownsRow_of_block {w w' : World} {base : Nat} {e : TypeId} {size : Nat} {v : Value} {n : Nat} {xs : List Value} (h : w.ownsRow base e size v n xs) (hb : ∀ g, v.ownBlock = some g → w'.heap[g]? = w.heap[g]?) : w'.ownsRow base e size v n xs := by
  refine ⟨h.1, ?_⟩
  rcases h.2 with hn | ⟨g, cap, cur, rfl, hg, hgg, rest⟩
  · exact .inl hn
  · exact .inr ⟨g, cap, cur, rfl, hg, (hb g rfl).trans hgg, rest⟩
theorem ownsRow_mono {w : World} {base base' : Nat} {e : TypeId} {size : Nat} {v : Value} {n : Nat} {xs : List Value} (h : w.ownsRow base e size v n xs) (hb : base' ≤ base) : w.ownsRow base' e size v n xs := by
  refine ⟨h.1, ?_⟩
  rcases h.2 with h2 | ⟨g, cap, cur, hv, hg, r⟩
  · exact .inl h2
  · exact .inr ⟨g, cap, cur, hv, Nat.le_trans hb hg, r⟩
/-- A slice type and its elements. -/
structure ElT (P : Program) (t e : TypeId) (size bytes : Nat) (z : Value) : Prop where
  ht : P.underlying t = some (.slice e)
  hi : (P.info? e).map (fun i => (i.zero, i.size, i.bytes)) = some (some z, size, bytes)
  hzs : z.cells.size = size
  hsz : 0 < size
/-- A slice value that holds these cells. -/
def Src (w : World) (v : Value) (m : Nat) (news : List Value) : Prop :=
  (v = .slice none 0 0 ∧ m = 0 ∧ news = []) ∨ ∃ a c, v = .slice (some a) m c ∧ ∀ j u, news[j]? = some u → w.cell? (a.add j) = some u
theorem Src.nil (w : World) : Src w (.slice none 0 0) 0 [] := .inl ⟨rfl, rfl, rfl⟩
theorem Src.own {w : World} {base e size n : Nat} {v : Value} {xs : List Value} (h : w.ownsRow base e size v n xs) : Src w v n xs := by
  rcases h.2 with ⟨rfl, rfl⟩ | ⟨g, cap, cur, rfl, hb, hg, rest⟩
  · refine .inl ⟨rfl, rfl, List.eq_nil_of_length_eq_zero (by simpa using h.1)⟩
  · exact .inr ⟨_, _, rfl, h.cells rfl⟩
theorem Src.new (w : World) (cs : List Value) (e m c : Nat) : Src (w.alloc (.cells cs.toArray e)) (.slice (some ⟨w.heap.size, 0, none⟩) m c) m cs := by
  refine .inr ⟨_, _, rfl, fun j u hu => ?_⟩
  have hadd : (⟨w.heap.size, 0, none⟩ : Addr).add j = ⟨w.heap.size, j, none⟩ := by unfold Addr.add; split <;> simp_all
  rw [hadd, cell_of_row _ _ j _ e (0, 0) (heap_alloc_new w _)]
  simpa using hu
theorem wpList_app {P : Program} {w : World} {ops : Array Oper} {rest : List Oper} {o : Oper} {a : Act} {Q : Exit → Act → World → Prop} {t e : TypeId} {size bytes : Nat} {z : Value} (E : ElT P t e size bytes z)
    (hgd : o.guard = none) (s x : Operand) (ho : o.op = .call { callee := .builtin .append, args := #[s, x], argTypes := #[t, t] })
    (base : Nat) {v sv : Value} {n m : Nat} {xs news : List Value} (hs : a.eval s = v) (hown : w.ownsRow base e size v n xs) (hx : a.eval x = sv) (hsrc : Src w sv m news)
    (hl : news.length = m * size) (h1 : ∀ u ∈ news, u.oneCell' = true) (h63 : n + m ≤ maxLen) (hbytes : (n + m) * bytes ≤ 140737488355328) (hbase : base ≤ w.heap.size)
    (h : ∀ v' w', w'.ownsRow base e size v' (n + m) (xs ++ news) → w.grownBy w' v.ownBlock → (v'.ownBlock = v.ownBlock ∨ v'.ownBlock = some w.heap.size) → wpList P ops Q rest (a.put o.dst v') w') :
    wpList P ops Q (o :: rest) a w := by
  obtain ⟨i, hi, hz0, hz1, hz2⟩ := info_parts E.hi
  rcases hsrc with ⟨rfl, rfl, rfl⟩ | ⟨ad, c, rfl, hc⟩
  · refine wpList_append_own_none hgd s x t ho base e i size E.ht hi v n xs hs hown hx ?_
    have := h v w (by simpa using hown) (World.grownBy.refl w _) (.inl rfl)
    exact this
  · exact wpList_append_own_at w hgd s x t ho base e i z size bytes E.ht hi hz0 hz1 hz2 E.hzs E.hsz v n xs hs hown ad m c news hx hl hc h1 h63 hbytes hbase (fun v' w' h2 h3 _ h5 => h v' w' h2 h3 h5)
theorem elU8 : ElT Tryz.prog 33 5 1 1 (.int .u8 0) := ⟨Tryz.underlying33, by kernel_rfl, rfl, by decide⟩
/-- Bytes as cells. -/
def u8s (l : List Nat) : List Value := l.map fun b => .int .u8 (b : Nat)
theorem u8s_length (l : List Nat) : (u8s l).length = l.length := by simp [u8s]
theorem u8s_one (l : List Nat) : ∀ u ∈ u8s l, u.oneCell' = true := by
  intro u hu
  simp only [u8s, List.mem_map] at hu
  obtain ⟨b, _, rfl⟩ := hu
  rfl
theorem row_of_block {w w' : World} {base : Nat} {e : TypeId} {size : Nat} {v : Value} {n : Nat} {xs : List Value} (h : w.ownsRow base e size v n xs) (hb : ∀ g, v.ownBlock = some g → w'.heap[g]? = w.heap[g]?) : w'.ownsRow base e size v n xs := by
  refine ⟨h.1, ?_⟩
  rcases h.2 with hn | ⟨g, cap, cur, rfl, hg, hgg, rest⟩
  · exact .inl hn
  · exact .inr ⟨g, cap, cur, rfl, hg, (hb g rfl).trans hgg, rest⟩
/-- What a call leaves: all but the blocks of S. -/
structure Kept (w w' : World) (S : Nat → Prop) : Prop where
  os : w'.os = w.os
  tape : w'.tape = w.tape
  output : w'.output = w.output
  size : w.heap.size ≤ w'.heap.size
  block : ∀ k, k < w.heap.size → ¬ S k → w'.heap[k]? = w.heap[k]?
theorem Kept.refl (w : World) (S : Nat → Prop) : Kept w w S := ⟨rfl, rfl, rfl, Nat.le_refl _, fun _ _ _ => rfl⟩
theorem Kept.trans {w w1 w2 : World} {S T : Nat → Prop} (h : Kept w w1 S) (h2 : Kept w1 w2 T) (hT : ∀ k, k < w.heap.size → T k → S k) : Kept w w2 S :=
  ⟨h2.os.trans h.os, h2.tape.trans h.tape, h2.output.trans h.output, Nat.le_trans h.size h2.size, fun k hk hn => (h2.block k (Nat.lt_of_lt_of_le hk h.size) fun t => hn (hT k hk t)).trans (h.block k hk hn)⟩
theorem Kept.mono {w w1 : World} {S T : Nat → Prop} (h : Kept w w1 S) (hT : ∀ k, k < w.heap.size → S k → T k) : Kept w w1 T :=
  ⟨h.os, h.tape, h.output, h.size, fun k hk hn => h.block k hk fun s => hn (hT k hk s)⟩
theorem Kept.of_grown {w w' : World} {row : Option Nat} (h : w.grownBy w' row) : Kept w w' (fun k => some k = row) := ⟨h.os, h.tape, h.output, h.size, h.block⟩
theorem Kept.of_below {w w' : World} {k : Nat} (h : Below k w w') (S : Nat → Prop) (hS : ∀ j, k ≤ j → j < w.heap.size → S j) : Kept w w' S :=
  ⟨h.os, h.tape, h.output, h.size, fun j hj hn => h.block j (Nat.lt_of_not_le fun hk => hn (hS j hk hj))⟩
theorem Kept.below {w w' : World} {S : Nat → Prop} (h : Kept w w' S) {k : Nat} (hk : k ≤ w.heap.size) (hS : ∀ j, j < k → ¬ S j) : Below k w w' := ⟨h.os, h.tape, h.output, h.size, fun j hj => h.block j (by omega) (hS j hj)⟩
theorem Kept.row {w w' : World} {S : Nat → Prop} (h : Kept w w' S) {base : Nat} {e : TypeId} {size : Nat} {v : Value} {n : Nat} {xs : List Value} (hv : w.ownsRow base e size v n xs) (hS : ∀ b, v.ownBlock = some b → ¬ S b) : w'.ownsRow base e size v n xs :=
  row_of_block hv fun g hg => h.block g (hv.lt g hg).2 (hS g hg)
theorem Kept.cell {w w' : World} {S : Nat → Prop} (h : Kept w w' S) {p : Addr} (hp : p.block < w.heap.size) (hS : ¬ S p.block) : w'.cell? p = w.cell? p := World.cell?_of_block (h.block _ hp hS)
theorem Kept.alloc (w : World) (o : Obj) (S : Nat → Prop) : Kept w (w.alloc o) S := ⟨rfl, rfl, rfl, by simp, fun k hk _ => heap_alloc_old w o hk⟩
theorem Kept.drew (w : World) (S : Nat → Prop) : Kept w w.drew S := ⟨rfl, rfl, rfl, Nat.le_refl _, fun _ _ _ => rfl⟩
theorem Kept.setCell (w : World) (p : Addr) (u : Value) : Kept w (w.setCell p u) (fun k => k = p.block) :=
  ⟨rfl, rfl, rfl, by simp [World.setCell], fun k hk hn => by simp [World.setCell, Array.getElem?_modify, Ne.symm hn]⟩
/-- Cells written one behind the other. -/
def setAll (xs : List Value) (k : Nat) : List Value → List Value
  | [] => xs
  | u :: l => setAll (xs.set k u) (k + 1) l
def stAll (w : World) (g k : Nat) : List Value → World
  | [] => w
  | u :: l => stAll (w.setCell ⟨g, k, none⟩ u) g (k + 1) l
theorem setAll_length : ∀ (l xs : List Value) (k : Nat), (setAll xs k l).length = xs.length
  | [], _, _ => rfl
  | u :: l, xs, k => by rw [setAll, setAll_length l, List.length_set]
theorem setAll_take : ∀ (l xs : List Value) (k : Nat), k + l.length ≤ xs.length → (setAll xs k l).take (k + l.length) = xs.take k ++ l
  | [], xs, k, _ => by simp [setAll]
  | u :: l, xs, k, h => by
    simp only [List.length_cons] at h
    rw [setAll, List.length_cons, show k + (l.length + 1) = k + 1 + l.length by omega, setAll_take l _ _ (by rw [List.length_set]; omega), List.take_add_one, List.take_set_of_le (Nat.le_refl _), List.getElem?_set_self (by omega)]
    simp
theorem stAll_kept : ∀ (l : List Value) (w : World) (g k : Nat), Kept w (stAll w g k l) (fun j => j = g)
  | [], w, _, _ => Kept.refl w _
  | u :: l, w, g, k => (Kept.setCell w ⟨g, k, none⟩ u).trans (stAll_kept l _ g (k + 1)) fun _ _ h => h
theorem stAll_row : ∀ (l : List Value) {w : World} {base : Nat} {e : TypeId} {size g n cap : Nat} {xs : List Value} (k : Nat), w.ownsRow base e size (.slice (some ⟨g, 0, none⟩) n cap) n xs → (stAll w g k l).ownsRow base e size (.slice (some ⟨g, 0, none⟩) n cap) n (setAll xs k l)
  | [], _, _, _, _, _, _, _, _, _, h => h
  | u :: l, _, _, _, _, _, _, _, _, k, h => stAll_row l (k + 1) (World.ownsRow.stored h k u).1
theorem own_form {w : World} {base : Nat} {e : TypeId} {size : Nat} {v : Value} {n : Nat} {xs : List Value} (h : w.ownsRow base e size v n xs) : ∃ o c, v = .slice o n c := by
  rcases h.2 with ⟨rfl, rfl⟩ | ⟨g, cap, _, rfl, _⟩
  · exact ⟨none, 0, rfl⟩
  · exact ⟨_, _, rfl⟩
theorem own_some {w : World} {base : Nat} {e : TypeId} {size : Nat} {o : Option Addr} {n m c : Nat} {xs : List Value} (h : w.ownsRow base e size (.slice o n c) m xs) (hn : 0 < m) : m = n ∧ ∃ g, o = some ⟨g, 0, none⟩ ∧ g < w.heap.size ∧ (∀ j, j < n * size → ∃ u, xs[j]? = some u ∧ w.cell? ⟨g, j, none⟩ = some u) ∧ ∀ j, w.frozen? ⟨g, j, none⟩ = false := by
  have h0 := h
  rcases h.2 with ⟨_, h1⟩ | ⟨g, cap, _, h1, _, hg, _⟩
  · omega
  · simp only [Value.slice.injEq] at h1
    obtain ⟨rfl, rfl, rfl⟩ := h1
    refine ⟨rfl, g, rfl, (Array.getElem?_eq_some_iff.1 hg).1, fun j hj => ?_, fun j => World.ownsRow.frozenAt h0 j⟩
    have hl : j < xs.length := by rw [h0.1]; exact hj
    exact ⟨xs[j], List.getElem?_eq_getElem hl, by rw [World.ownsRow.cellAt h0 j hj, List.getElem?_eq_getElem hl]⟩
theorem row_cell {w : World} {base : Nat} {es : TypeId} {o : Option Addr} {n c : Nat} {vs : List Value} (h : w.ownsRow base es 1 (.slice o n c) n vs) {d : Nat} (hd : d < n) {v : Value} (hv : vs[d]? = some v) : ∃ g, o = some ⟨g, 0, none⟩ ∧ g < w.heap.size ∧ w.cell? ⟨g, d, none⟩ = some v := by
  obtain ⟨_, g, rfl, hl, hc, _⟩ := own_some h (by omega)
  obtain ⟨u, hu, hcu⟩ := hc d (by omega)
  rw [hv] at hu
  cases hu
  exact ⟨g, rfl, hl, hcu⟩
theorem add_none (g o i : Nat) : (⟨g, o, none⟩ : Addr).add i = ⟨g, o + i, none⟩ := by unfold Addr.add; split <;> simp_all
theorem Src.below {w w' : World} {v : Value} {m : Nat} {xs : List Value} (h : Src w v m xs) (hb : Below w.heap.size w w') : Src w' v m xs := by
  rcases h with h | ⟨a, c, h, hj⟩
  · exact .inl h
  · exact .inr ⟨a, c, h, fun j u hu => (hb.cell (World.block_lt_of_cell? w _ (hj j u hu))).trans (hj j u hu)⟩
end Go.Proofs.YtdinjlglngpecaaGreatDoor
