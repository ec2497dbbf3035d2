/- Regions that draw their order, walked once: what only reads is taken as early as its edges allow (in every world that keeps the cells of the world at hand), what acts one at a time. No condition. -/
import Derived.Test.YtdinjlglngpecaaGreatDoorProg
import Derived.WalkKit
import Derived.StillTail
import Derived.BigQuiet
namespace Go.Proofs.YtdinjlglngpecaaGreatDoor
open Go.RowKit

variable {X : Option Nat}

/-- Every cell that is there stays as it is, but for one block's; nothing goes. -/
structure Keeps (X : Option Nat) (w w' : World) : Prop where
  size : w.heap.size ≤ w'.heap.size
  cell : ∀ a : Addr, a.block < w.heap.size → X ≠ some a.block → w'.cell? a = w.cell? a

theorem Keeps.refl (w : World) : Keeps X w w := ⟨Nat.le_refl _, fun _ _ _ => rfl⟩
theorem Keeps.trans {a b c : World} (h : Keeps X a b) (k : Keeps X b c) : Keeps X a c :=
  ⟨Nat.le_trans h.size k.size, fun x hx hX => (k.cell x (Nat.lt_of_lt_of_le hx h.size) hX).trans (h.cell x hx hX)⟩
theorem keeps_alloc (w : World) (o : Obj) : Keeps X w (w.alloc o) :=
  ⟨by simp, fun a ha _ => World.cell?_of_block (w := w) (Below.heap_alloc w o a.block ha)⟩
theorem keeps_drew {w w' : World} (h : Keeps X w w') : Keeps X w.drew w'.drew := ⟨h.1, h.2⟩
theorem Keeps.of_below {w w' : World} (h : Below w.heap.size w w') : Keeps X w w' := ⟨h.size, fun _ ha _ => h.cell ha⟩

open Classical in
/-- Some world that keeps the cells of w. -/
noncomputable def wgr (X : Option Nat) (w g : World) : World := if Keeps X w g then g else w
theorem keeps_wgr (w g : World) : Keeps X w (wgr X w g) := by
  unfold wgr; split
  · assumption
  · exact Keeps.refl w
theorem wgr_of {w g : World} (h : Keeps X w g) : wgr X w g = g := by unfold wgr; rw [if_pos h]
@[go_sem] theorem cell?_wgr (w g : World) (b o : Nat) (s : Option Nat) (h : b < w.heap.size) : (wgr none w g).cell? ⟨b, o, s⟩ = w.cell? ⟨b, o, s⟩ := (keeps_wgr w g).cell _ h (by simp)
@[go_sem] theorem cell?_wgr_drew (w g : World) (b o : Nat) (s : Option Nat) (h : b < w.heap.size) : (wgr none w.drew g).cell? ⟨b, o, s⟩ = w.cell? ⟨b, o, s⟩ := (keeps_wgr w.drew g).cell _ h (by simp)
@[go_sem] theorem cell?_wgr_but (w g : World) (B b o : Nat) (s : Option Nat) (h : b < w.heap.size) (hne : B ≠ b) : (wgr (some B) w g).cell? ⟨b, o, s⟩ = w.cell? ⟨b, o, s⟩ := (keeps_wgr w g).cell _ h (by simpa using hne)
@[go_sem] theorem cell?_wgr_but_drew (w g : World) (B b o : Nat) (s : Option Nat) (h : b < w.heap.size) (hne : B ≠ b) : (wgr (some B) w.drew g).cell? ⟨b, o, s⟩ = w.cell? ⟨b, o, s⟩ := (keeps_wgr w.drew g).cell _ h (by simpa using hne)
theorem Keeps.of_setCell {w : World} {B j : Nat} {s : Option Nat} (v : Value) : Keeps (some B) w (w.setCell ⟨B, j, s⟩ v) :=
  ⟨by simp, fun a _ hX => World.cell?_of_block (w := w) (Below.heap_setCell _ _ _ _ (by simpa using fun h => hX (by simp [h])))⟩
@[go_sem ↓ high] theorem cell?_alloc_lt (w : World) (x : Obj) (b o : Nat) (s : Option Nat) (h : b < w.heap.size) : (w.alloc x).cell? ⟨b, o, s⟩ = w.cell? ⟨b, o, s⟩ :=
  World.cell?_of_block (w := w) (Below.heap_alloc w x b h)
@[go_sem ↓ high] theorem frozen?_alloc_lt (w : World) (x : Obj) (b o : Nat) (s : Option Nat) (h : b < w.heap.size) : (w.alloc x).frozen? ⟨b, o, s⟩ = w.frozen? ⟨b, o, s⟩ :=
  World.frozen?_of_block (w := w) (Below.heap_alloc w x b h)
@[go_sem ↓] theorem lt_size_alloc (w : World) (o : Obj) (b : Nat) (h : b < w.heap.size) : (b < (w.alloc o).heap.size) = True := by simp; omega

section
variable {P : Program} {ops : Array Oper} {Q : Exit → Act → World → Prop} {md : Region.Mode} {n : Nat}

def YieldsK (X : Option Nat) (P : Program) (ops : Array Oper) (w0 : World) (o : Oper) (v : Value) (a : Act) : Prop :=
  (Region.wanted o (yielded ops a.tmps) = true ∧ ∀ w, Keeps X w0 w → (execOp a.eval o).run P w = .ok (.value v) w ∨ (v = undef ∧ (execOp a.eval o).run P w = .ok .skip w)) ∨
  (Region.wanted o (yielded ops a.tmps) = false ∧ v = undef)

theorem YieldsK.wpOp {w0 : World} {i : Nat} {o : Oper} {v : Value} {a : Act} (hi : ops[i]? = some o) (hy : YieldsK X P ops w0 o v a)
    {K : Act → World → Prop} {w : World} (hS : Keeps X w0 w) (h : K (a.put o.dst v) w) : wpOp P ops Q i K a w := by
  unfold Go.wpOp
  simp only [hi]
  rcases hy with ⟨hw, hv⟩ | ⟨hw, rfl⟩
  · rw [if_pos hw]
    refine .inl ?_
    unfold Oper.wp
    rcases hv w hS with h1 | ⟨h0, h1⟩
    · rw [h1]; exact h
    · rw [h1]; rw [h0] at h; exact h
  · simp only [hw, Bool.false_eq_true, if_false]; exact h

theorem YieldsK.of_same {w0 : World} {o : Oper} {v : Value} {a a' : Act} (hy : YieldsK X P ops w0 o v a) (he : execOp a'.eval o = execOp a.eval o)
    (hw : Region.wanted o (yielded ops a'.tmps) = Region.wanted o (yielded ops a.tmps)) : YieldsK X P ops w0 o v a' := by
  unfold YieldsK at *
  rw [he, hw]
  exact hy

theorem wpOp_putK {w0 : World} {j : Nat} {oi oj : Oper} {v : Value} (hj : ops[j]? = some oj) (hap : oi.apart ops oj = true)
    (hsi : ∀ cs b, oi.op ≠ .select cs b) (hsj : ∀ cs b, oj.op ≠ .select cs b)
    (hQ : ∀ c a w, Q (.panic c) (a.put oi.dst v) w → Q (.panic c) a w) {K : Act → World → Prop} {a : Act} {w : World}
    (hy : YieldsK X P ops w0 oi v a) (h : wpOp P ops Q j K (a.put oi.dst v) w) :
    wpOp P ops Q j (fun a' w' => YieldsK X P ops w0 oi v a' ∧ K (a'.put oi.dst v) w') a w := by
  obtain ⟨h1, h2, h3⟩ := Oper.apart_spec hap
  have keep : ∀ (a : Act), YieldsK X P ops w0 oi v a → ∀ u, YieldsK X P ops w0 oi v (a.put oj.dst u) := fun a hy u =>
    hy.of_same (execOp_put oi hsi a oj.dst u h3) (wanted_put oi a oj.dst u h3)
  have keepD : ∀ d, YieldsK X P ops w0 oi v { a with defers := d :: a.defers } := fun d => hy.of_same rfl rfl
  unfold wpOp at *
  simp only [hj] at *
  rw [wanted_put oj a oi.dst v h1] at h
  split
  · rename_i hw
    simp only [hw, if_true] at h
    rcases h with h | ⟨hasks, hlets⟩
    case inr => exact .inr ⟨by unfold Oper.asks at *; rw [execOp_put oj hsj a oi.dst v h1] at hasks; exact hasks, hlets⟩
    refine .inl ?_
    unfold Oper.wp at *
    rw [execOp_put oj hsj a oi.dst v h1] at h
    generalize (execOp a.eval oj).run P w = r at *
    cases r with
    | ok n w' =>
      cases n <;> simp only [Oper.upon] at h ⊢
      case value u => exact ⟨keep a hy u, by rw [← Act.put_comm a v u h2]; exact h⟩
      case skip => exact ⟨keep a hy _, by rw [← Act.put_comm a v undef h2]; exact h⟩
      case defer d =>
        refine ⟨keep _ (keepD d) _, ?_⟩
        rw [← Act.put_comm _ v undef h2, ← Act.put_defers]
        exact h
      case enter f args =>
        refine Calls.mono h fun e w'' he => ?_
        cases e with
        | returned u => exact ⟨keep a hy u, by rw [← Act.put_comm a v u h2]; exact he⟩
        | panicked c => exact hQ _ _ _ he
        | outgrown => exact he
      case row row args => exact Rows.mono h fun u w'' he => ⟨keep a hy u, by rw [← Act.put_comm a v u h2]; exact he⟩
    | halt x w' =>
      cases x <;> simp only [Oper.upon] at h ⊢
      case panic u => exact hQ _ _ _ h
  · rename_i hw
    simp only [hw] at h
    exact ⟨keep a hy _, by rw [← Act.put_comm a v undef h2]; exact h⟩

/-- Whatever order is picked from here on; what is carried out ahead of operation n keeps the cells. -/
def wpAnyK (X : Option Nat) (P : Program) (md : Region.Mode) (ops : Array Oper) (Q : Exit → Act → World → Prop) (n : Nat) : Nat → Array Bool → Act → World → Prop
  | 0, listed, a, w => Region.ready md ops listed = [] ∧ Q .normal a w
  | fuel + 1, listed, a, w =>
    (Region.ready md ops listed = [] → Q .normal a w) ∧
    ∀ i ∈ Region.ready md ops listed, wpOp P ops Q i (fun a' w' => (i < n → Keeps X w w') ∧ wpAnyK X P md ops Q n fuel (listed.setIfInBounds i true) a' w') a w

theorem wpAny_of_K : ∀ (fuel : Nat) (listed : Array Bool) (a : Act) (w : World), wpAnyK X P md ops Q n fuel listed a w → wpAny P md ops Q fuel listed a w
  | 0, _, _, _, h => h
  | fuel + 1, _, _, _, h => ⟨h.1, fun i hi => wpOp_mono (fun a' w' h' => wpAny_of_K fuel _ a' w' h'.2) (h.2 i hi)⟩

theorem wpAnyK_first {w0 : World} {i : Nat} {oi : Oper} {v : Value} (hi : ops[i]? = some oi) (hsel : ∀ (j : Nat) (o : Oper) cs b, ops[j]? = some o → o.op ≠ .select cs b)
    (hQ : ∀ c a w, Q (.panic c) (a.put oi.dst v) w → Q (.panic c) a w) (hin : i < n)
    (hwait : ∀ listed : Array Bool, HeadInv md ops n listed → listed.getD i true = false → ∀ t, n ≤ t → t ∉ Region.ready md ops listed) :
    ∀ (fuel : Nat) (listed : Array Bool) (a : Act) (w : World), HeadInv md ops n listed →
      (∀ j oj, ops[j]? = some oj → j ≠ i → listed.getD j true = false → (∀ e ∈ oj.after, Region.binds md e = true → e.on ≠ i) → oi.apart ops oj = true) →
      i ∈ Region.ready md ops listed → YieldsK X P ops w0 oi v a → Keeps X w0 w →
      wpAnyK X P md ops Q n fuel (listed.setIfInBounds i true) (a.put oi.dst v) w → wpAnyK X P md ops Q n (fuel + 1) listed a w := by
  intro fuel
  induction fuel with
  | zero =>
    intro listed a w _ _ hr hy hS H
    refine ⟨fun h => (by rw [h] at hr; cases hr), fun j hj => ?_⟩
    by_cases hji : j = i
    · subst hji; exact hy.wpOp hi hS ⟨fun _ => Keeps.refl w, H⟩
    · have := ready_mono hj hji
      rw [H.1] at this
      cases this
  | succ fuel ih =>
    intro listed a w inv hfree hr hy hS H
    refine ⟨fun h => (by rw [h] at hr; cases hr), fun j hj => ?_⟩
    by_cases hji : j = i
    · subst hji; exact hy.wpOp hi hS ⟨fun _ => Keeps.refl w, H⟩
    · have h1 := H.2 j (ready_mono hj hji)
      obtain ⟨hjun, oj, hoj, hall⟩ := mem_ready.1 hj
      have hun := (mem_ready.1 hr).1
      have hnot : ∀ e ∈ oj.after, Region.binds md e = true → e.on ≠ i := fun e he hb heq => by
        have h1 := hall e he hb
        rw [heq, getD_both hun] at h1
        cases h1
      have hjn : j < n := by
        rcases Nat.lt_or_ge j n with h | h
        · exact h
        · exact absurd hj (hwait listed inv hun j h)
      have h2 := wpOp_putK hoj (hfree j oj hoj hji hjun hnot) (fun cs b => hsel i oi cs b hi) (fun cs b => hsel j oj cs b hoj) hQ hy h1
      have hfree' : ∀ k ok, ops[k]? = some ok → k ≠ i → (listed.setIfInBounds j true).getD k true = false →
          (∀ e ∈ ok.after, Region.binds md e = true → e.on ≠ i) → oi.apart ops ok = true := fun k ok hk hki hun hno => by
        refine hfree k ok hk hki ?_ hno
        by_cases hjk : j = k
        · subst hjk; exact hjun
        · rw [getD_set_ne true hjk] at hun; exact hun
      refine wpOp_mono (fun a' w' h3 => ?_) h2
      obtain ⟨hy', hk, h4⟩ := h3
      refine ⟨hk, ih (listed.setIfInBounds j true) a' w' (inv.set hj hjn) hfree' (ready_mono hr (Ne.symm hji)) hy' (hS.trans (hk hjn)) ?_⟩
      rw [Array.setIfInBounds_comm _ _ hji]
      exact h4

/-- Operations that look at no memory at all. -/
def purest (o : Oper) : Bool :=
  match o.op with
  | .move _ | .assign _ | .extract _ _ | .pick _ _ _ => true
  | _ => false

def YieldsAll (P : Program) (ops : Array Oper) (o : Oper) (v : Value) (a : Act) : Prop :=
  (Region.wanted o (yielded ops a.tmps) = true ∧ ∀ w, (execOp a.eval o).run P w = .ok (.value v) w) ∨
  (Region.wanted o (yielded ops a.tmps) = false ∧ v = undef)

theorem purest_run {o : Oper} (h : purest o = true) (ρ : Operand → Value) {v : Value} {w0 : World} (hr : (execOp ρ o).run P w0 = .ok (.value v) w0) : ∀ w, (execOp ρ o).run P w = .ok (.value v) w := by
  obtain ⟨dst, op, type, pos, after, guard⟩ := o
  cases op <;> simp only [purest] at h <;> try contradiction
  case move x =>
    intro w
    simp only [execOp, Sem.run_pure, Result.ok.injEq, Next.value.injEq, and_true] at hr ⊢
    exact hr
  case assign x =>
    intro w
    simp only [execOp, Sem.run_pure, Result.ok.injEq, Next.value.injEq, and_true] at hr ⊢
    exact hr
  case pick c x y =>
    intro w
    simp only [execOp, Sem.run_bind, asBool] at hr ⊢
    generalize ρ c = u at *
    cases u <;> simp [Result.andThen, stuck] at hr ⊢
    exact hr
  case extract t i =>
    intro w
    simp only [execOp, Sem.run_bind, Instr.extract] at hr ⊢
    generalize ρ t = u at *
    cases u <;> simp only [stuck, Sem.run_halt, Result.andThen, reduceCtorEq] at hr ⊢
    rename_i vs
    cases hv : vs[i]? <;> simp only [hv, Sem.run_halt, Sem.run_pure, reduceCtorEq, Result.ok.injEq, Next.value.injEq, and_true] at hr ⊢
    exact hr

theorem purest_not_skip {o : Oper} (h : purest o = true) (ρ : Operand → Value) (w : World) : (execOp ρ o).run P w ≠ .ok .skip w := by
  obtain ⟨dst, op, type, pos, after, guard⟩ := o
  cases op <;> simp only [purest] at h <;> try contradiction
  case move x => simp [execOp]
  case assign x => simp [execOp]
  case pick c x y =>
    simp only [execOp, Sem.run_bind]
    cases Sem.run P (asBool (ρ c)) w <;> simp [Result.andThen]
  case extract t i =>
    simp only [execOp, Sem.run_bind]
    cases Sem.run P (Instr.extract (ρ t) i) w <;> simp [Result.andThen]

theorem YieldsAll.toK {w0 : World} {o : Oper} {v : Value} {a : Act} (h : YieldsAll P ops o v a) : YieldsK X P ops w0 o v a :=
  h.imp (fun ⟨hw, hv⟩ => ⟨hw, fun w _ => .inl (hv w)⟩) id

theorem YieldsAll.of_same {o : Oper} {v : Value} {a a' : Act} (hy : YieldsAll P ops o v a) (he : execOp a'.eval o = execOp a.eval o)
    (hw : Region.wanted o (yielded ops a'.tmps) = Region.wanted o (yielded ops a.tmps)) : YieldsAll P ops o v a' := by
  unfold YieldsAll at *
  rw [he, hw]
  exact hy

theorem wpOp_putAll {j : Nat} {oi oj : Oper} {v : Value} (hj : ops[j]? = some oj) (hap : oi.apart ops oj = true)
    (hsi : ∀ cs b, oi.op ≠ .select cs b) (hsj : ∀ cs b, oj.op ≠ .select cs b)
    (hQ : ∀ c a w, Q (.panic c) (a.put oi.dst v) w → Q (.panic c) a w) {K : Act → World → Prop} {a : Act} {w : World}
    (hy : YieldsAll P ops oi v a) (h : wpOp P ops Q j K (a.put oi.dst v) w) :
    wpOp P ops Q j (fun a' w' => YieldsAll P ops oi v a' ∧ K (a'.put oi.dst v) w') a w := by
  obtain ⟨h1, h2, h3⟩ := Oper.apart_spec hap
  have keep : ∀ (a : Act), YieldsAll P ops oi v a → ∀ u, YieldsAll P ops oi v (a.put oj.dst u) := fun a hy u =>
    hy.of_same (execOp_put oi hsi a oj.dst u h3) (wanted_put oi a oj.dst u h3)
  have keepD : ∀ d, YieldsAll P ops oi v { a with defers := d :: a.defers } := fun d => hy.of_same rfl rfl
  unfold wpOp at *
  simp only [hj] at *
  rw [wanted_put oj a oi.dst v h1] at h
  split
  · rename_i hw
    simp only [hw, if_true] at h
    rcases h with h | ⟨hasks, hlets⟩
    case inr => exact .inr ⟨by unfold Oper.asks at *; rw [execOp_put oj hsj a oi.dst v h1] at hasks; exact hasks, hlets⟩
    refine .inl ?_
    unfold Oper.wp at *
    rw [execOp_put oj hsj a oi.dst v h1] at h
    generalize (execOp a.eval oj).run P w = r at *
    cases r with
    | ok n w' =>
      cases n <;> simp only [Oper.upon] at h ⊢
      case value u => exact ⟨keep a hy u, by rw [← Act.put_comm a v u h2]; exact h⟩
      case skip => exact ⟨keep a hy _, by rw [← Act.put_comm a v undef h2]; exact h⟩
      case defer d =>
        refine ⟨keep _ (keepD d) _, ?_⟩
        rw [← Act.put_comm _ v undef h2, ← Act.put_defers]
        exact h
      case enter f args =>
        refine Calls.mono h fun e w'' he => ?_
        cases e with
        | returned u => exact ⟨keep a hy u, by rw [← Act.put_comm a v u h2]; exact he⟩
        | panicked c => exact hQ _ _ _ he
        | outgrown => exact he
      case row row args => exact Rows.mono h fun u w'' he => ⟨keep a hy u, by rw [← Act.put_comm a v u h2]; exact he⟩
    | halt x w' =>
      cases x <;> simp only [Oper.upon] at h ⊢
      case panic u => exact hQ _ _ _ h
  · rename_i hw
    simp only [hw] at h
    exact ⟨keep a hy _, by rw [← Act.put_comm a v undef h2]; exact h⟩

/-- What looks at no memory may be taken first, whatever else comes up. -/
theorem wpAnyK_firstAll {i : Nat} {oi : Oper} {v : Value} (hi : ops[i]? = some oi) (hsel : ∀ (j : Nat) (o : Oper) cs b, ops[j]? = some o → o.op ≠ .select cs b)
    (hQ : ∀ c a w, Q (.panic c) (a.put oi.dst v) w → Q (.panic c) a w) :
    ∀ (fuel : Nat) (listed : Array Bool) (a : Act) (w : World),
      (∀ j oj, ops[j]? = some oj → j ≠ i → listed.getD j true = false → (∀ e ∈ oj.after, Region.binds md e = true → e.on ≠ i) → oi.apart ops oj = true) →
      i ∈ Region.ready md ops listed → YieldsAll P ops oi v a →
      wpAnyK X P md ops Q n fuel (listed.setIfInBounds i true) (a.put oi.dst v) w → wpAnyK X P md ops Q n (fuel + 1) listed a w := by
  intro fuel
  induction fuel with
  | zero =>
    intro listed a w _ hr hy H
    refine ⟨fun h => (by rw [h] at hr; cases hr), fun j hj => ?_⟩
    by_cases hji : j = i
    · subst hji; exact (hy.toK (w0 := w) (X := X)).wpOp hi (Keeps.refl w) ⟨fun _ => Keeps.refl w, H⟩
    · have := ready_mono hj hji
      rw [H.1] at this
      cases this
  | succ fuel ih =>
    intro listed a w hfree hr hy H
    refine ⟨fun h => (by rw [h] at hr; cases hr), fun j hj => ?_⟩
    by_cases hji : j = i
    · subst hji; exact (hy.toK (w0 := w) (X := X)).wpOp hi (Keeps.refl w) ⟨fun _ => Keeps.refl w, H⟩
    · have h1 := H.2 j (ready_mono hj hji)
      obtain ⟨hjun, oj, hoj, hall⟩ := mem_ready.1 hj
      have hun := (mem_ready.1 hr).1
      have hnot : ∀ e ∈ oj.after, Region.binds md e = true → e.on ≠ i := fun e he hb heq => by
        have h1 := hall e he hb
        rw [heq, getD_both hun] at h1
        cases h1
      have h2 := wpOp_putAll hoj (hfree j oj hoj hji hjun hnot) (fun cs b => hsel i oi cs b hi) (fun cs b => hsel j oj cs b hoj) hQ hy h1
      have hfree' : ∀ k ok, ops[k]? = some ok → k ≠ i → (listed.setIfInBounds j true).getD k true = false →
          (∀ e ∈ ok.after, Region.binds md e = true → e.on ≠ i) → oi.apart ops ok = true := fun k ok hk hki hun hno => by
        refine hfree k ok hk hki ?_ hno
        by_cases hjk : j = k
        · subst hjk; exact hjun
        · rw [getD_set_ne true hjk] at hun; exact hun
      refine wpOp_mono (fun a' w' h3 => ?_) h2
      obtain ⟨hy', hk, h4⟩ := h3
      refine ⟨hk, ih (listed.setIfInBounds j true) a' w' hfree' (ready_mono hr (Ne.symm hji)) hy' ?_⟩
      rw [Array.setIfInBounds_comm _ _ hji]
      exact h4

/-- A walk: blocks of operations that read, one that acts behind each; at the end a block that reads, then those from n on. -/
def wpSegs (X : Option Nat) (P : Program) (ops : Array Oper) (Q : Exit → Act → World → Prop) (tail : List Oper) : List (List Oper × Oper) → List Oper → Act → World → Prop
  | [], qs, a, w => wpQuiet P ops (fun w' => ∃ g, w' = wgr X w g) (fun a' => wpList P ops Q tail a' w) qs a
  | (bs, e) :: segs, qs, a, w => wpQuiet P ops (fun w' => ∃ g, w' = wgr X w g)
      (fun a' => wpList P ops (Exit.then (fun a'' w'' => Keeps X w w'' ∧ wpSegs X P ops Q tail segs qs a'' w'') Q) [e] a' w) bs a

theorem Oper.wp_then {o : Oper} {a : Act} {w : World} {K X : Act → World → Prop} (h : o.wp P a w K (Exit.then X Q)) : o.wp P a w K Q := by
  unfold Oper.wp at *
  generalize (execOp a.eval o).run P w = r at *
  cases r with
  | ok n w' =>
    cases n <;> simp only [Oper.upon] at h ⊢ <;> first
      | exact h
      | exact Calls.mono h fun e w'' he => by cases e <;> exact he
  | halt x w' =>
    cases x <;> simp only [Oper.upon] at h ⊢
    case panic u => exact h

theorem wpOp_of_one {i : Nat} {o : Oper} {a : Act} {w : World} {X : Act → World → Prop} (hi : ops[i]? = some o) (h : wpList P ops (Exit.then X Q) [o] a w) : wpOp P ops Q i X a w := by
  unfold wpOp
  simp only [hi]
  unfold wpList at h
  split
  · rename_i hw
    rw [if_pos hw] at h
    rcases h with h | ⟨ha, hl⟩
    · exact .inl (Oper.wp_then h)
    · exact .inr ⟨ha, hl⟩
  · rename_i hw
    rw [if_neg hw] at h
    exact h

def isEnter {α : Type} : Result α → (α → Bool) → Bool
  | .ok x _, p => p x
  | _, _ => false
def nextEnters : Next → Bool
  | .enter _ _ => true
  | _ => false

/-- Operations that never call Go text. -/
def plainOp (o : Oper) : Bool :=
  match o.op with
  | .move _ | .assign _ | .pick _ _ _ | .load _ _ | .binOp _ _ _ _ _ | .unOp _ _ _ | .convert _ _ _ | .makeInterface _ _ | .makeFunc _ _ _
  | .slice _ _ _ _ _ | .fieldAddr _ _ _ | .field _ _ _ | .indexAddr _ _ _ | .index _ _ _ | .nilCheck _ | .extract _ _ | .build _ _ | .lookup _ _ _ _ | .typeAssert _ _ _ _ => true
  | .call c => match c.callee with
    | .builtin .len | .builtin .cap | .builtin .min | .builtin .max => true
    | _ => false
  | _ => false

theorem value_not_enter (s : Sem Value) (w : World) : isEnter ((do pure (Next.value (← s)) : Sem Next).run P w) nextEnters = false := by
  simp only [Sem.run_bind]
  cases Sem.run P s w <;> simp [isEnter, nextEnters, Result.andThen]

theorem plain_not_enter {o : Oper} (h : plainOp o = true) (ρ : Operand → Value) (w : World) : isEnter ((execOp ρ o).run P w) nextEnters = false := by
  obtain ⟨dst, op, type, pos, after, guard⟩ := o
  cases op <;> simp only [plainOp] at h <;> try contradiction
  case move x => rfl
  case assign x => rfl
  case pick c a b =>
    simp only [execOp, Sem.run_bind]
    cases Sem.run P (asBool (ρ c)) w <;> simp [isEnter, nextEnters, Result.andThen]
  case nilCheck x =>
    simp only [execOp]
    split
    · rfl
    · rfl
    · rfl
    · split
      · rfl
      · simp only [Sem.run_bind]
        generalize Sem.run P program w = r0
        cases r0 with
        | ok p0 w0 =>
          simp only [Result.andThen]
          generalize Sem.run P (nilAhead _ _ _ _) w0 = r1
          cases r1 with
          | ok p1 w1 =>
            simp only
            split
            · rfl
            · rfl
          | halt _ _ => rfl
        | halt _ _ => rfl
      · rfl
    · rfl
  case call c =>
    obtain ⟨callee, args, ats⟩ := c
    cases callee <;> simp only at h <;> try contradiction
    rename_i b
    cases b <;> simp only at h <;> first | contradiction | exact value_not_enter _ _
  all_goals exact value_not_enter _ _

/-- What the lexical walk shows of one operation that reads. -/
theorem yieldsK_of_quiet {w0 : World} {i : Nat} {o : Oper} {a : Act} {K : Act → Prop} (hi : ops[i]? = some o) (hp : plainOp o = true)
    (h : qOp P ops (fun w' => ∃ g, w' = wgr X w0 g) i K a) : ∃ v, YieldsK X P ops w0 o v a ∧ K (a.put o.dst v) := by
  unfold qOp at h
  simp only [hi] at h
  by_cases hw : Region.wanted o (yielded ops a.tmps) = true
  · simp only [hw, if_true] at h
    obtain ⟨v, h1, h2⟩ := h
    have key : ∀ w, Keeps X w0 w → (execOp a.eval o).run P w = .ok (.value v) w ∨ (v = undef ∧ (execOp a.eval o).run P w = .ok .skip w) := fun w hk => by
      have h3 := h1 w ⟨w, (wgr_of hk).symm⟩
      have h4 := plain_not_enter (P := P) hp a.eval w
      unfold Oper.quietAt at h3
      generalize (execOp a.eval o).run P w = r at *
      cases r with
      | ok x w' =>
        cases x <;> simp only [Oper.quietUpon] at h3
        case value u => obtain ⟨rfl, rfl⟩ := h3; exact .inl rfl
        case skip => obtain ⟨rfl, rfl⟩ := h3; exact .inr ⟨rfl, rfl⟩
        case enter f args => simp [isEnter, nextEnters] at h4
      | halt x w' => simp only [Oper.quietUpon] at h3
    exact ⟨v, .inl ⟨hw, key⟩, h2⟩
  · simp only [hw] at h
    exact ⟨undef, .inr ⟨by simpa using hw, rfl⟩, h⟩

/-! ### The static check -/
def blockB (md : Region.Mode) (ops : Array Oper) (n : Nat) : List Nat → Array Bool → Bool
  | [], _ => true
  | i :: r, listed => decide (i < n) && (Region.ready md ops listed).contains i && Region.free md ops listed i && (match ops[i]? with | some o => plainOp o | none => false) &&
      blockB md ops n r (listed.setIfInBounds i true)
def listAll : List Nat → Array Bool → Array Bool
  | [], listed => listed
  | i :: r, listed => listAll r (listed.setIfInBounds i true)
def segsB (md : Region.Mode) (ops : Array Oper) (n : Nat) (qs : List Nat) : List (List Nat × Nat) → Array Bool → Bool
  | [], listed => blockB md ops n qs listed && Region.seqB md ops (ops.size - n) n (listAll qs listed)
  | (bs, e) :: r, listed => blockB md ops n bs listed && decide (e < n) && decide (Region.ready md ops (listAll bs listed) = [e]) && segsB md ops n qs r ((listAll bs listed).setIfInBounds e true)
def pureAt (ops : Array Oper) (i : Nat) : Bool := match ops[i]? with | some o => purest o | none => false
/-- Each operation ahead of n that is not of the purest sort is waited for, at last by operation n. -/
def reachN (md : Region.Mode) (ops : Array Oper) (n : Nat) : Nat → Nat → Bool
  | 0, _ => false
  | f + 1, i => (List.range (n + 1)).any fun j => decide (i < j) && Region.waitsFor md ops j i && (decide (j = n) || reachN md ops n f j)
def sinkN (md : Region.Mode) (ops : Array Oper) (n : Nat) : Bool := (List.range n).all fun i => pureAt ops i || reachN md ops n n i
def waitB (md : Region.Mode) (ops : Array Oper) (n : Nat) : Bool :=
  decide (n = ops.size) || (decide (n < ops.size) && sinkN md ops n && Region.chainB md ops n)

theorem tailN_waits {listed : Array Bool} (hs : sinkN md ops n = true) (hc : Region.chainB md ops n = true) (hn : n < ops.size) (inv : HeadInv md ops n listed) :
    ∀ (d i : Nat), n - i = d → i < n → pureAt ops i = false → listed.getD i true = false → ∀ t, n ≤ t → t ∉ Region.ready md ops listed := by
  have key : ∀ (f i : Nat), reachN md ops n f i = true → i < n → listed.getD i true = false → ∀ t, n ≤ t → t ∉ Region.ready md ops listed := by
    intro f
    induction f with
    | zero => intro i h; cases h
    | succ f ih =>
      intro i h1 hi hun t ht hr
      obtain ⟨_, ot, hot, hall⟩ := mem_ready.1 hr
      have htlt : t < ops.size := (Array.getElem?_eq_some_iff.1 hot).1
      by_cases htn : t = n
      · subst htn
        obtain ⟨j, hj, hj2⟩ := List.any_eq_true.1 h1
        simp only [Bool.and_eq_true, decide_eq_true_eq, Bool.or_eq_true] at hj2
        obtain ⟨⟨hij, hwj⟩, hjn⟩ := hj2
        obtain ⟨oj, hoj, e, he, hb, hon⟩ := Region.waitsFor_spec hwj
        have hjle : j ≤ t := by have := List.mem_range.1 hj; omega
        by_cases hjt : j = t
        · subst hjt
          have : oj = ot := Option.some.inj (hoj.symm.trans hot)
          subst this
          have h2 := hall e he hb
          rw [hon, getD_both hun] at h2
          cases h2
        · cases hl : listed.getD j false with
          | true =>
            have h2 := inv.closed j oj hoj hl e he hb
            rw [hon, getD_both hun] at h2
            cases h2
          | false =>
            have hjs : j < listed.size := by rw [inv.size]; omega
            exact ih j (hjn.resolve_left hjt) (by omega) (getD_in hjs hl) t (Nat.le_refl _) hr
      · have h1 := List.all_eq_true.1 hc t (List.mem_range.2 htlt)
        simp only [Bool.or_eq_true, decide_eq_true_eq] at h1
        rcases h1 with h1 | h1
        · omega
        · obtain ⟨o', ho', e, he, hb, hon⟩ := Region.waitsFor_spec h1
          have : o' = ot := Option.some.inj (ho'.symm.trans hot)
          subst this
          have h2 := hall e he hb
          rw [hon, getD_both (inv.tail (t - 1) (by omega) (by omega))] at h2
          cases h2
  intro d i _ hi hpi hun
  have h1 := List.all_eq_true.1 hs i (List.mem_range.2 hi)
  rw [hpi, Bool.false_or] at h1
  exact key n i h1 hi hun
def segB (md : Region.Mode) (ops : Array Oper) (n : Nat) (segs : List (List Nat × Nat)) (qs : List Nat) : Bool :=
  Region.noSelect ops && decide (n ≤ ops.size) && waitB md ops n && segsB md ops n qs segs (Array.replicate ops.size false)

theorem wait_of (h : waitB md ops n = true) (i : Nat) (hin : i < n) (hp : pureAt ops i = false) : ∀ listed : Array Bool, HeadInv md ops n listed → listed.getD i true = false → ∀ t, n ≤ t → t ∉ Region.ready md ops listed := by
  intro listed inv hun t ht hr
  simp only [waitB, Bool.or_eq_true, decide_eq_true_eq, Bool.and_eq_true] at h
  rcases h with h | ⟨⟨h1, h2⟩, h3⟩
  · obtain ⟨_, o, ho, _⟩ := mem_ready.1 hr
    have := (Array.getElem?_eq_some_iff.1 ho).1
    omega
  · exact tailN_waits h2 h3 h1 inv _ i rfl hin hp hun t ht hr

/-- How many operations a walk has left. -/
def segsLen (n size : Nat) (qs : List Nat) : List (List Nat × Nat) → Nat
  | [] => qs.length + (size - n)
  | (bs, _) :: r => bs.length + (1 + segsLen n size qs r)

theorem block_any {w : World} (hsel : Region.noSelect ops = true) (hw : waitB md ops n = true) (hQ : ∀ c a (d : Option Tmp) v w, Q (.panic c) (a.put d v) w → Q (.panic c) a w) {fuel : Nat} {N : Act → Prop} :
    ∀ (is : List Nat) (listed : Array Bool) (a : Act), HeadInv md ops n listed → blockB md ops n is listed = true →
      (∀ a', HeadInv md ops n (listAll is listed) → N a' → wpAnyK X P md ops Q n fuel (listAll is listed) a' w) →
      wpQuiet P ops (fun w' => ∃ g, w' = wgr X w g) N (is.filterMap (ops[·]?)) a → wpAnyK X P md ops Q n (is.length + fuel) listed a w
  | [], listed, a, inv, _, hN, h => by simpa [listAll] using hN a inv h
  | i :: r, listed, a, inv, hB, hN, h => by
    simp only [blockB, Bool.and_eq_true, decide_eq_true_eq] at hB
    obtain ⟨⟨⟨⟨hin, hr⟩, hf⟩, hp⟩, hB'⟩ := hB
    have hr' : i ∈ Region.ready md ops listed := by simpa using hr
    obtain ⟨_, o, ho, _⟩ := mem_ready.1 hr'
    simp only [ho] at hp
    have hq : qOp P ops (fun w' => ∃ g, w' = wgr X w g) i (wpQuiet P ops (fun w' => ∃ g, w' = wgr X w g) N (r.filterMap (ops[·]?))) a := by
      unfold qOp
      simp only [ho]
      simp only [List.filterMap_cons, ho] at h
      exact h
    obtain ⟨v, hy, hK⟩ := yieldsK_of_quiet ho hp hq
    have this := block_any (fuel := fuel) hsel hw hQ r (listed.setIfInBounds i true) (a.put o.dst v) (inv.set hr' hin) hB' hN hK
    rw [List.length_cons, show r.length + 1 + fuel = r.length + fuel + 1 by omega]
    cases hpa : pureAt ops i with
    | false => exact wpAnyK_first (w0 := w) ho (Region.noSelect_spec hsel) (fun c a w => hQ c a _ _ w) hin (wait_of hw i hin hpa) (r.length + fuel) listed a w inv (Region.free_spec ho hf) hr' hy (Keeps.refl w) this
    | true =>
      have hpo : purest o = true := by simpa [pureAt, ho] using hpa
      have hall : YieldsAll P ops o v a := by
        rcases hy with ⟨hwa, hv⟩ | hy
        · rcases hv w (Keeps.refl (X := X) w) with h1 | ⟨_, h1⟩
          · exact .inl ⟨hwa, purest_run hpo a.eval h1⟩
          · exact absurd h1 (purest_not_skip hpo a.eval w)
        · exact .inr hy
      exact wpAnyK_firstAll ho (Region.noSelect_spec hsel) (fun c a w => hQ c a _ _ w) (r.length + fuel) listed a w (Region.free_spec ho hf) hr' hall this

theorem seq_anyK : ∀ (l : List Oper) (k : Nat) (listed : Array Bool) (a : Act) (w : World), n ≤ k → (∀ j, l[j]? = ops[k + j]?) →
    Region.seqB md ops l.length k listed = true → wpList P ops Q l a w → wpAnyK X P md ops Q n l.length listed a w
  | [], _, _, _, _, _, _, hB, h => ⟨by simpa [Region.seqB] using hB, h⟩
  | o :: l, k, listed, a, w, hk, hl, hB, h => by
    have h0 : ops[k]? = some o := by simpa using (hl 0).symm
    simp only [List.length_cons, Region.seqB, Bool.and_eq_true, decide_eq_true_eq] at hB
    refine ⟨fun h1 => (by rw [hB.1] at h1; cases h1), fun i hi => ?_⟩
    rw [hB.1] at hi
    have hik : i = k := by simpa using hi
    subst hik
    have hw : wpOp P ops Q i (wpList P ops Q l) a w := by unfold wpOp; simp only [h0]; exact h
    exact wpOp_mono (fun a' w' h' => ⟨fun hlt => absurd hlt (by omega), seq_anyK l (i + 1) _ a' w' (by omega) (fun j => by have := hl (j + 1); simpa [Nat.add_assoc, Nat.add_comm 1 j] using this) hB.2 h'⟩) hw

theorem segs_any {tail : List Oper} (hsel : Region.noSelect ops = true) (hw : waitB md ops n = true) (hQ : ∀ c a (d : Option Tmp) v w, Q (.panic c) (a.put d v) w → Q (.panic c) a w)
    (ht : ∀ j, tail[j]? = ops[n + j]?) (htl : tail.length = ops.size - n) (qs : List Nat) :
    ∀ (segs : List (List Nat × Nat)) (listed : Array Bool) (a : Act) (w : World), HeadInv md ops n listed → segsB md ops n qs segs listed = true →
      wpSegs X P ops Q tail (segs.map fun p => (p.1.filterMap (ops[·]?), ops.getD p.2 default)) (qs.filterMap (ops[·]?)) a w →
      wpAnyK X P md ops Q n (segsLen n ops.size qs segs) listed a w
  | [], listed, a, w, inv, hB, h => by
    simp only [segsB, Bool.and_eq_true] at hB
    refine block_any hsel hw hQ qs listed a inv hB.1 (fun a' _ hN => ?_) h
    rw [← htl]
    exact seq_anyK tail n _ a' w (Nat.le_refl _) ht (by rw [htl]; exact hB.2) hN
  | (bs, e) :: r, listed, a, w, inv, hB, h => by
    simp only [segsB, Bool.and_eq_true, decide_eq_true_eq] at hB
    obtain ⟨⟨⟨hb, hen⟩, hre⟩, hB'⟩ := hB
    refine block_any hsel hw hQ bs listed a inv hb (fun a' inv' hN => ?_) h
    rw [Nat.add_comm 1]
    refine ⟨fun h1 => (by rw [hre] at h1; cases h1), fun i hi => ?_⟩
    have hie : i = e := by rw [hre] at hi; simpa using hi
    subst hie
    obtain ⟨_, o, ho, _⟩ := mem_ready.1 hi
    have hget : ops.getD i default = o := by simp [Array.getD_eq_getD_getElem?, ho]
    rw [hget] at hN
    exact wpOp_mono (fun a'' w'' h' => ⟨fun _ => h'.1, segs_any hsel hw hQ ht htl qs r _ a'' w'' (inv'.set hi hen) hB' h'.2⟩) (wpOp_of_one ho hN)
end

/-- The operations of these numbers. -/
def pickOps (l : List Oper) : List Nat → List Oper
  | [] => []
  | i :: r => l.getD i default :: pickOps l r
theorem pickOps_nil (l : List Oper) : pickOps l [] = [] := rfl
theorem pickOps_cons (l : List Oper) (i : Nat) (r : List Nat) : pickOps l (i :: r) = l.getD i default :: pickOps l r := rfl
theorem pickOps_eq {md : Region.Mode} {n : Nat} (l : List Oper) : ∀ (is : List Nat) (listed : Array Bool), blockB md l.toArray n is listed = true → pickOps l is = is.filterMap (l.toArray[·]?)
  | [], _, _ => rfl
  | i :: r, listed, h => by
    simp only [blockB, Bool.and_eq_true, decide_eq_true_eq] at h
    obtain ⟨⟨_, hp⟩, h'⟩ := h
    rw [pickOps_cons, pickOps_eq l r _ h', List.filterMap_cons]
    split at hp
    · rename_i o ho
      have : l.getD i default = o := by simp at ho; simp [List.getD_eq_getElem?_getD, ho]
      simp only [ho, this]
    · cases hp
def pickSegs (l : List Oper) : List (List Nat × Nat) → List (List Oper × Oper)
  | [] => []
  | (bs, e) :: r => (pickOps l bs, l.getD e default) :: pickSegs l r
theorem pickSegs_nil (l : List Oper) : pickSegs l [] = [] := rfl
theorem pickSegs_cons (l : List Oper) (bs : List Nat) (e : Nat) (r : List (List Nat × Nat)) : pickSegs l ((bs, e) :: r) = (pickOps l bs, l.getD e default) :: pickSegs l r := rfl
theorem picks_eq {md : Region.Mode} {n : Nat} {qs : List Nat} (l : List Oper) : ∀ (segs : List (List Nat × Nat)) (listed : Array Bool), segsB md l.toArray n qs segs listed = true →
    pickSegs l segs = segs.map (fun p => (p.1.filterMap (l.toArray[·]?), l.toArray.getD p.2 default)) ∧ pickOps l qs = qs.filterMap (l.toArray[·]?)
  | [], listed, h => by
    simp only [segsB, Bool.and_eq_true] at h
    exact ⟨rfl, pickOps_eq l qs _ h.1⟩
  | (bs, e) :: r, listed, h => by
    simp only [segsB, Bool.and_eq_true, decide_eq_true_eq] at h
    obtain ⟨h1, h2⟩ := picks_eq l r _ h.2
    refine ⟨?_, h2⟩
    rw [pickSegs_cons, List.map_cons, h1, pickOps_eq l bs _ h.1.1.1]
    simp [Array.getD_eq_getD_getElem?, List.getD_eq_getElem?_getD]

/-- **The region, walked once.** -/
theorem wp_region_segs {P : Program} {Q : Exit → Act → World → Prop} {id : Nat} {a : Act} {w : World} {l : List Oper} (n : Nat) (segs : List (List Nat × Nat)) (qs : List Nat) (hm : P.follows .mixedOrders = true)
    (hB : segB .any l.toArray n segs qs = true) (hlen : segsLen n l.toArray.size qs segs = l.toArray.size)
    (hQ : ∀ c (a : Act) (d : Tmp) v w, Q (.panic c) { a with tmps := a.tmps.setIfInBounds d v } w → Q (.panic c) a w)
    (h : wpSegs X P l.toArray Q (l.drop n) (pickSegs l segs) (pickOps l qs) a w.drew) : (Code.region id l.toArray true).wp P Q a w := by
  simp only [segB, Bool.and_eq_true, decide_eq_true_eq] at hB
  obtain ⟨⟨⟨hsel, hn⟩, hw⟩, hs⟩ := hB
  refine wp_region_any hm (wpAny_of_K (X := X) (n := n) _ _ _ _ ?_)
  have inv0 : HeadInv .any l.toArray n (Array.replicate l.toArray.size false) :=
    ⟨by simp, fun j oj _ hl => (by rw [getD_replicate_false] at hl; cases hl), fun t _ ht => getD_in (by simpa using ht) (getD_replicate_false _ _)⟩
  have := segs_any (P := P) (Q := Q) hsel hw (fun c a d v w h => by cases d with | none => exact h | some d => exact hQ c a d v w h) (tail := l.drop n) (fun j => by simp [List.getElem?_drop]) (by simp) qs segs _ a w.drew inv0 hs (by obtain ⟨h1, h2⟩ := picks_eq l segs _ hs; rw [h1, h2] at h; exact h)
  rw [hlen] at this
  exact this

/-! ### One operation that acts and waits for nothing ('f', an alloc): it may come up ahead of each of the others -/
def wpComb (X : Option Nat) (P : Program) (ops : Array Oper) (Q : Exit → Act → World → Prop) (tail : List Oper) (f : Oper) : List (List Oper × Oper) → List Oper → Act → World → Prop
  | [], qs, a, w => wpSegs X P ops Q tail [(qs, f)] [] a w
  | (bs, e) :: segs, qs, a, w => wpQuiet P ops (fun w' => ∃ g, w' = wgr X w g)
      (fun a' => wpList P ops (Exit.then (fun a'' w'' => Keeps X w w'' ∧ wpComb X P ops Q tail f segs qs a'' w'') Q) [e] a' w ∧
        wpList P ops (Exit.then (fun a'' w'' => Keeps X w w'' ∧ wpSegs X P ops Q tail (([], e) :: segs) qs a'' w'') Q) [f] a' w) bs a

section
variable {P : Program} {ops : Array Oper} {Q : Exit → Act → World → Prop} {md : Region.Mode} {n : Nat}

def combB (md : Region.Mode) (ops : Array Oper) (n : Nat) (qs : List Nat) (f : Nat) : List (List Nat × Nat) → Array Bool → Bool
  | [], listed => decide (f < n) && segsB md ops n [] [(qs, f)] listed
  | (bs, e) :: r, listed => blockB md ops n bs listed && decide (e < n) && decide (f < n) && decide (e ≠ f) &&
      (Region.ready md ops (listAll bs listed)).all (fun i => decide (i = e) || decide (i = f)) && (Region.ready md ops (listAll bs listed)).contains e &&
      combB md ops n qs f r ((listAll bs listed).setIfInBounds e true) && segsB md ops n qs (([], e) :: r) ((listAll bs listed).setIfInBounds f true)

def combLen (n size : Nat) (qs : List Nat) : List (List Nat × Nat) → Nat
  | [] => segsLen n size [] [(qs, 0)]
  | (bs, _) :: r => bs.length + (1 + combLen n size qs r)

theorem combLen_eq (n size : Nat) (qs : List Nat) : ∀ (r : List (List Nat × Nat)), combLen n size qs r = 1 + segsLen n size qs r
  | [] => by simp [combLen, segsLen]; omega
  | (bs, e) :: r => by simp only [combLen, segsLen, combLen_eq n size qs r]; omega
theorem segsLen_nil (n size : Nat) (qs : List Nat) (e : Nat) (r : List (List Nat × Nat)) : segsLen n size qs (([], e) :: r) = 1 + segsLen n size qs r := by simp [segsLen]

theorem comb_any {tail : List Oper} (hsel : Region.noSelect ops = true) (hw : waitB md ops n = true) (hQ : ∀ c a (d : Option Tmp) v w, Q (.panic c) (a.put d v) w → Q (.panic c) a w)
    (ht : ∀ j, tail[j]? = ops[n + j]?) (htl : tail.length = ops.size - n) (qs : List Nat) (f : Nat) :
    ∀ (segs : List (List Nat × Nat)) (listed : Array Bool) (a : Act) (w : World), HeadInv md ops n listed → combB md ops n qs f segs listed = true →
      wpComb X P ops Q tail (ops.getD f default) (segs.map fun p => (p.1.filterMap (ops[·]?), ops.getD p.2 default)) (qs.filterMap (ops[·]?)) a w →
      wpAnyK X P md ops Q n (combLen n ops.size qs segs) listed a w
  | [], listed, a, w, inv, hB, h => by
    simp only [combB, Bool.and_eq_true, decide_eq_true_eq] at hB
    exact segs_any hsel hw hQ ht htl [] [(qs, f)] listed a w inv hB.2 h
  | (bs, e) :: r, listed, a, w, inv, hB, h => by
    simp only [combB, Bool.and_eq_true, decide_eq_true_eq] at hB
    obtain ⟨⟨⟨⟨⟨⟨⟨hb, hen⟩, hfn⟩, hef⟩, hre⟩, hce⟩, hB1⟩, hB2⟩ := hB
    refine block_any hsel hw hQ bs listed a inv hb (fun a' inv' hN => ?_) h
    rw [Nat.add_comm 1]
    refine ⟨fun h1 => (by rw [h1] at hce; simp at hce), fun i hi => ?_⟩
    have hie := List.all_eq_true.1 hre i hi
    simp only [Bool.or_eq_true, decide_eq_true_eq] at hie
    obtain ⟨_, o, ho, _⟩ := mem_ready.1 hi
    have hget : ops.getD i default = o := by simp [Array.getD_eq_getD_getElem?, ho]
    rcases hie with rfl | rfl
    · have h1 := hN.1
      rw [hget] at h1
      exact wpOp_mono (fun a'' w'' h' => ⟨fun _ => h'.1, comb_any hsel hw hQ ht htl qs f r _ a'' w'' (inv'.set hi hen) hB1 h'.2⟩) (wpOp_of_one ho h1)
    · have h1 := hN.2
      rw [hget] at h1
      refine wpOp_mono (fun a'' w'' h' => ⟨fun _ => h'.1, ?_⟩) (wpOp_of_one ho h1)
      rw [combLen_eq, ← segsLen_nil n ops.size qs e r]
      exact segs_any hsel hw hQ ht htl qs (([], e) :: r) _ a'' w'' (inv'.set hi hfn) hB2 h'.2
end

theorem combPicks_eq {md : Region.Mode} {n : Nat} {qs : List Nat} {f : Nat} (l : List Oper) : ∀ (segs : List (List Nat × Nat)) (listed : Array Bool), combB md l.toArray n qs f segs listed = true →
    pickSegs l segs = segs.map (fun p => (p.1.filterMap (l.toArray[·]?), l.toArray.getD p.2 default)) ∧ pickOps l qs = qs.filterMap (l.toArray[·]?)
  | [], listed, h => by
    simp only [combB, segsB, Bool.and_eq_true, decide_eq_true_eq] at h
    exact ⟨rfl, pickOps_eq l qs _ h.2.1.1.1⟩
  | (bs, e) :: r, listed, h => by
    simp only [combB, Bool.and_eq_true, decide_eq_true_eq] at h
    obtain ⟨h1, h2⟩ := combPicks_eq l r _ h.1.2
    refine ⟨?_, h2⟩
    rw [pickSegs_cons, List.map_cons, h1, pickOps_eq l bs _ h.1.1.1.1.1.1.1]
    simp [Array.getD_eq_getD_getElem?, List.getD_eq_getElem?_getD]

/-- **The region, walked once, but for the one that may come up anywhere.** -/
theorem wp_region_comb {P : Program} {Q : Exit → Act → World → Prop} {id : Nat} {a : Act} {w : World} {l : List Oper} (n f : Nat) (segs : List (List Nat × Nat)) (qs : List Nat) (hm : P.follows .mixedOrders = true)
    (hB : (Region.noSelect l.toArray && decide (n ≤ l.toArray.size) && waitB .any l.toArray n && combB .any l.toArray n qs f segs (Array.replicate l.toArray.size false)) = true) (hlen : combLen n l.toArray.size qs segs = l.toArray.size)
    (hQ : ∀ c (a : Act) (d : Tmp) v w, Q (.panic c) { a with tmps := a.tmps.setIfInBounds d v } w → Q (.panic c) a w)
    (h : wpComb X P l.toArray Q (l.drop n) (l.getD f default) (pickSegs l segs) (pickOps l qs) a w.drew) : (Code.region id l.toArray true).wp P Q a w := by
  simp only [Bool.and_eq_true, decide_eq_true_eq] at hB
  obtain ⟨⟨⟨hsel, hn⟩, hw⟩, hs⟩ := hB
  refine wp_region_any hm (wpAny_of_K (X := X) (n := n) _ _ _ _ ?_)
  have inv0 : HeadInv .any l.toArray n (Array.replicate l.toArray.size false) :=
    ⟨by simp, fun j oj _ hl => (by rw [getD_replicate_false] at hl; cases hl), fun t _ ht => getD_in (by simpa using ht) (getD_replicate_false _ _)⟩
  have hg : l.toArray.getD f default = l.getD f default := by simp [Array.getD_eq_getD_getElem?, List.getD_eq_getElem?_getD]
  have := comb_any (P := P) (Q := Q) hsel hw (fun c a d v w h => by cases d with | none => exact h | some d => exact hQ c a d v w h) (tail := l.drop n) (fun j => by simp [List.getElem?_drop]) (by simp) qs f segs _ a w.drew inv0 hs
    (by obtain ⟨h1, h2⟩ := combPicks_eq l segs _ hs; rw [h1, h2] at h; rw [hg]; exact h)
  rw [hlen] at this
  exact this
end Go.Proofs.YtdinjlglngpecaaGreatDoor
