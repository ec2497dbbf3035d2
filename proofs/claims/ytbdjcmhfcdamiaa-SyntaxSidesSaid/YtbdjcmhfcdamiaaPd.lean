/- Plain laws of the reader: what stands in other marks is read there as the same tree, its groups numbered on; or a limit is passed, and then the tree is beyond it. -/
import Derived.Test.YtbdjcmhfcdamiaaPc
namespace Go.Proofs.Ytbdjcmhfcdamiaa

/-- A node whose group is numbered on. -/
def sh (p : Nat) (x : Nd) : Nd := if x.op = 7 then { x with n := x.n + p } else x
theorem sh_op (p : Nat) (x : Nd) : (sh p x).op = x.op := by unfold sh; split <;> rfl
theorem sh_kids (p : Nat) (x : Nd) : (sh p x).kids = x.kids := by unfold sh; split <;> rfl
theorem sh_good (p : Nat) (x : Nd) : goodN (sh p x) = goodN x := by
  unfold sh
  split
  · rename_i h7
    unfold goodN
    simp only [h7]
    rfl
  · rfl
theorem sh_ne {p : Nat} {x : Nd} (h : x.op ≠ 7) : sh p x = x := if_neg h
theorem sh_one (p b : Nat) : sh p (oneN b) = oneN b := rfl
theorem sh_group (p m : Nat) : sh p (groupN m) = groupN (m + p) := by unfold sh groupN; simp
theorem sh_zero (x : Nd) : sh 0 x = x := by unfold sh; split <;> simp
theorem map_sh_zero (l : List Nd) : l.map (sh 0) = l := by
  rw [show (sh 0) = id from funext sh_zero, List.map_id]
theorem sh_head (p : Nat) (re : List Nd) : ((re.map (sh p)).getD 0 Nd.zero).op = (re.getD 0 Nd.zero).op := by
  cases re with
  | nil => rfl
  | cons x l => simp [sh_op]

/-- No tree of that kind stands there. -/
def NTr (g : Nat) (l : List Nd) (a : List Bool) : Prop := ∀ f pre post, nodeN (pre ++ l ++ post) f g pre.length a = none
def NTrs (g n : Nat) (l : List Nd) (a : List Bool) : Prop := ∀ f pre post, kidsN (nodeN (pre ++ l ++ post) f g) n pre.length a = none
theorem kidsN_none (g : Nat → List Bool → Option (Nat × List Bool)) : ∀ (m k i : Nat) (en : List Bool), kidsN g m i en = none → kidsN g (m + k) i en = none
  | 0, _, _, _, h => by simp [kidsN] at h
  | m + 1, k, i, en, h => by
    rw [show m + 1 + k = (m + k) + 1 by omega]
    unfold kidsN at h ⊢
    split at h
    · rfl
    · exact kidsN_none g m k _ _ h
theorem NTr.one {g : Nat} {l : List Nd} {a : List Bool} (h : NTr g l a) : NTrs g 1 l a := fun f pre post => by simp only [kidsN, h f pre post]
theorem NTrs.un {g : Nat} {l : List Nd} {a : List Bool} (h : NTrs g 1 l a) : NTr g l a := fun f pre post => by
  have := h f pre post
  unfold kidsN at this
  split at this
  · assumption
  · simp [kidsN] at this
theorem NTrs.more {g n : Nat} {l : List Nd} {a : List Bool} (h : NTrs g n l a) (m : Nat) (r : List Nd) : NTrs g (n + m) (l ++ r) a := fun f pre post => by
  have := h f pre (r ++ post)
  rw [show pre ++ (l ++ r) ++ post = pre ++ l ++ (r ++ post) by simp]
  exact kidsN_none _ _ _ _ _ this
theorem NTrs.after {F g n : Nat} {l r : List Nd} {a b : List Bool} (h : Trs F g n l a b) (hr : NTr g r b) : NTrs g (n + 1) (l ++ r) a := fun f pre post => by
  have h1 := h pre (r ++ post)
  have h2 := hr f (pre ++ l) post
  rw [show pre ++ l ++ (r ++ post) = pre ++ l ++ r ++ post by simp] at h1
  rw [show pre ++ (l ++ r) ++ post = pre ++ l ++ r ++ post by simp]
  cases hk : kidsN (nodeN (pre ++ l ++ r ++ post) f g) n pre.length a with
  | none => exact kidsN_none _ _ _ _ _ hk
  | some q =>
    have h3 := kidsN_mono (fun i en r => nodeN_mono _ (g := g) (i := i) (en := en) (r := r) (Nat.le_max_left f F)) _ _ _ _ hk
    have h4 := kidsN_mono (fun i en r => nodeN_mono _ (g := g) (i := i) (en := en) (r := r) (Nat.le_max_right f F)) _ _ _ _ h1
    rw [h3] at h4
    obtain ⟨j, en⟩ := q
    simp only [Option.some.injEq, Prod.mk.injEq] at h4
    rw [kidsN_add _ n 1 _ _ _ _ hk, h4.1, h4.2]
    rw [List.length_append] at h2
    simp only [kidsN, h2]
theorem NTr.node {g : Nat} {x : Nd} {l : List Nd} {a : List Bool} (h7 : x.op ≠ 7) (h : NTrs g x.kids.toNat l a) : NTr g (x :: l) a := fun f pre post => by
  cases f with
  | zero => rfl
  | succ f =>
    have h1 := h f (pre ++ [x]) post
    rw [show pre ++ [x] ++ l ++ post = pre ++ (x :: l) ++ post by simp, show (pre ++ [x]).length = pre.length + 1 by simp] at h1
    rw [nodeN, get_mid]
    simp only
    split
    · rfl
    · split
      · rfl
      · first | exact h1 | (rw [if_neg h7]; exact h1)
theorem NTr.group {g m : Nat} {l : List Nd} {a : List Bool} (h : NTr (g + 1) l (a ++ [false])) : NTr g (groupN m :: l) a := fun f pre post => by
  cases f with
  | zero => rfl
  | succ f =>
    have h1 := h.one f (pre ++ [groupN m]) post
    rw [show pre ++ [groupN m] ++ l ++ post = pre ++ (groupN m :: l) ++ post by simp, show (pre ++ [groupN m]).length = pre.length + 1 by simp] at h1
    rw [nodeN, get_mid]
    simp only
    split
    · rfl
    · split
      · rfl
      · rw [if_pos (by rfl)]
        split
        · rfl
        · rw [show (groupN m).kids.toNat = 1 from rfl, h1]
theorem NTr.far {g m : Nat} {l : List Nd} {a : List Bool} (h : 64 ≤ g ∨ 255 < m) : NTr g (groupN m :: l) a := fun f pre post => by
  cases f with
  | zero => rfl
  | succ f =>
    rw [nodeN, get_mid]
    simp only
    split
    · rfl
    · split
      · rfl
      · rw [if_pos (by rfl), if_pos (by rcases h with h | h; exact .inr (.inr h); exact .inr (.inl (by show (255 : Int) < (m : Int); omega)))]

theorem groupL_adv2 {ere : Bool} {L : List Mk} (hu : ∀ i, i < L.length → (markAt L i).b < 256) (k : Nat) {s : Rst} {re : List Nd} {t : Rst} (hs : s.i + wideB ere ≤ L.length) (h : groupL ere L k s = .ok re t) : s.i + 2 * wideB ere ≤ t.i := by
  cases k with
  | zero => simp [groupL] at h
  | succ k =>
    unfold groupL at h
    split at h
    · cases h
    · split at h
      · cases h
      · rename_i r u hx
        have h1 := sidesL_rise (fun s r t h0 h => rowS_rise hu k h0 h) _ _ _ _ _ _ (by simpa using hs) hx
        split at h
        · cases h
        · cases h
          have := h1.lt
          simp only at this ⊢
          omega

section
variable {ere : Bool} {L M : List Mk} {d n q p g : Nat} {pre : List Bool} {X : Prop}
/-- A limit was passed. -/
def Lim {α : Type} (X : Prop) (o : Out α) : Prop := X ∧ ∃ e j, o = .no e j ∧ (e = 46 ∨ e = 47)
def NR (p : Nat) (re : List Nd) : Prop := 0 < p → ∀ x ∈ re, x.op ≠ 8
theorem NR.left {p : Nat} {a b : List Nd} (h : NR p (a ++ b)) : NR p a := fun hp x hx => h hp x (List.mem_append_left _ hx)
theorem NR.right {p : Nat} {a b : List Nd} (h : NR p (a ++ b)) : NR p b := fun hp x hx => h hp x (List.mem_append_right _ hx)
theorem NR.tail {p : Nat} {x : Nd} {b : List Nd} (h : NR p (x :: b)) : NR p b := fun hp x hx => h hp x (List.mem_cons_of_mem _ hx)

def EmbG (X : Prop) (d p g : Nat) (pre : List Bool) (s : Rst) (o : Out (List Nd)) (re : List Nd) (t : Rst) : Prop :=
  o = .ok (re.map (sh p)) ⟨d + t.i, pre ++ t.ended⟩ ∨ (Lim X o ∧ NTr g (re.map (sh p)) (pre ++ s.ended))
def EmbA (X : Prop) (d p g : Nat) (pre : List Bool) (s : Rst) (o : Out (List Nd × Bool)) (r : List Nd × Bool) (t : Rst) : Prop :=
  o = .ok (r.1.map (sh p), r.2) ⟨d + t.i, pre ++ t.ended⟩ ∨ (Lim X o ∧ NTr g (r.1.map (sh p)) (pre ++ s.ended))
theorem EmbG.withTrue {s : Rst} {o : Out (List Nd)} {re : List Nd} {t : Rst} (h : EmbG X d p g pre s o re t) : EmbA X d p g pre s (withTrue o) (re, true) t := by
  rcases h with h | ⟨⟨hX, e, j, h, he⟩, hn⟩
  · subst h; exact .inl rfl
  · subst h; exact .inr ⟨⟨hX, e, j, rfl, he⟩, hn⟩
theorem escapeL_emb (E : Emb ere L M d n q) (hp : pre.length = p) {grp grp' : Rst → Out (List Nd)} {s : Rst} {r : List Nd × Bool} {t : Rst}
    (HG : ∀ re t, s.i + wideB ere ≤ L.length → grp s = .ok re t → t.i ≤ q → NR p re → EmbG X d p g pre s (grp' ⟨d + s.i, pre ++ s.ended⟩) re t)
    (HW : ∀ re t, s.i + wideB ere ≤ L.length → grp s = .ok re t → s.i + 2 * wideB ere ≤ t.i)
    (hs : s.i < L.length) (h : escapeL ere L grp s = .ok r t) (ht : t.i ≤ q) (hn : NR p r.1) : EmbA X d p g pre s (escapeL ere M grp' ⟨d + s.i, pre ++ s.ended⟩) r t := by
  have hqn := E.qn
  have hL := E.nL
  have hM := E.nM
  unfold escapeL at h ⊢
  simp only at h ⊢
  split at h
  · cases h
  · rename_i h1
    split at h
    · cases h
    · rename_i h2
      by_cases he : (!ere && (markAt L (s.i + 1)).b == 40) = true
      · rw [if_pos he] at h
        have hw : wideB ere = 2 := by cases ere <;> simp_all [wideB]
        have h3 := h
        unfold withTrue at h3
        split at h3
        · rename_i re u hx
          cases h3
          have hsw : s.i + wideB ere ≤ L.length := by omega
          have h4 := HW _ _ hsw hx
          have h5 := HG _ _ hsw hx ht hn
          rw [if_neg (by omega), Nat.add_assoc, E.eq (s.i + 1) (by omega), if_neg h2, if_pos he]
          exact h5.withTrue
        · cases h3
      · rw [if_neg he] at h
        have ht2 : t = ⟨s.i + 2, s.ended⟩ ∧ ∃ x, r = ([x], true) := by
          repeat' (split at h)
          all_goals first
            | (cases h; exact ⟨rfl, _, rfl⟩)
            | (cases h; done)
        have hsn : s.i + 1 < n := by rw [ht2.1] at ht; simp only at ht; omega
        rw [if_neg (by omega), Nat.add_assoc, E.eq (s.i + 1) hsn, if_neg h2, if_neg he]
        split at h
        · rename_i c1
          cases h
          rw [if_pos c1]
          exact .inl (by simp only [List.map_cons, List.map_nil, sh_one, Nat.add_assoc])
        · rename_i c1
          rw [if_neg c1]
          split at h
          · rename_i c2
            cases h
            rw [if_pos c2]
            exact .inl (by simp only [List.map_cons, List.map_nil, sh_one, Nat.add_assoc])
          · rename_i c2
            rw [if_neg c2]
            split at h
            · rename_i c3
              rw [if_pos c3]
              split at h
              · cases h
              · rename_i c4
                split at h
                · cases h
                · rename_i c5
                  cases h
                  have hp0 : p = 0 := by
                    by_cases h0 : 0 < p
                    · exact absurd rfl (hn h0 (refN ((markAt L (s.i + 1)).b - 48)) (List.mem_singleton.2 rfl))
                    · omega
                  subst hp0
                  have hpre : pre = [] := List.eq_nil_of_length_eq_zero hp
                  subst hpre
                  rw [List.nil_append, if_neg c4, if_neg c5]
                  exact .inl (by simp only [List.map_cons, List.map_nil, sh_zero, Nat.add_assoc, List.nil_append])
            · cases h
theorem atomL_emb (E : Emb ere L M d n q) (hu : ∀ i, i < L.length → (markAt L i).b < 256) (hp : pre.length = p) {first : Bool} {grp grp' : Rst → Out (List Nd)} {s : Rst} {r : List Nd × Bool} {t : Rst}
    (HG : ∀ re t, s.i + wideB ere ≤ L.length → grp s = .ok re t → t.i ≤ q → NR p re → EmbG X d p g pre s (grp' ⟨d + s.i, pre ++ s.ended⟩) re t)
    (HW : ∀ re t, s.i + wideB ere ≤ L.length → grp s = .ok re t → s.i + 2 * wideB ere ≤ t.i)
    (hs : s.i < L.length) (hlt : s.i < t.i) (h : atomL ere first L grp s = .ok r t) (ht : t.i ≤ q) (hn : NR p r.1) : EmbA X d p g pre s (atomL ere first M grp' ⟨d + s.i, pre ++ s.ended⟩) r t := by
  have hqn := E.qn
  unfold atomL at h ⊢
  simp only at h ⊢
  rw [E.eq s.i (by omega)]
  split at h
  · rename_i c0
    cases h
    rw [if_pos c0]
    exact .inl (by simp only [List.map_cons, List.map_nil, sh_one, Nat.add_assoc])
  · rename_i c0
    rw [if_neg c0]
    split at h
    · rename_i c1
      rw [if_pos c1]
      unfold anyL at h ⊢
      cases h
      exact .inl (by simp only [List.map_cons, List.map_nil, Nat.add_assoc]; rfl)
    · rename_i c1
      rw [if_neg c1]
      split at h
      · rename_i c2
        rw [if_pos c2]
        unfold brackL at h ⊢
        simp only
        split at h
        · cases h
        · rename_i c i hx
          cases h
          simp only at ht
          rw [bracketL_emb E hu hx (by show i ≤ n; omega)]
          exact .inl rfl
      · rename_i c2
        rw [if_neg c2]
        split at h
        · rename_i c3
          rw [if_pos c3]
          exact escapeL_emb E hp HG HW hs h ht hn
        · rename_i c3
          rw [if_neg c3]
          split at h
          · rename_i c4
            rw [if_pos c4]
            unfold beginL at h ⊢
            split at h
            · rename_i c5; cases h; rw [if_pos c5]; exact .inl (by simp only [List.map_cons, List.map_nil, sh_one, Nat.add_assoc])
            · rename_i c5; cases h; rw [if_neg c5]; exact .inl (by simp only [List.map_cons, List.map_nil, Nat.add_assoc]; rfl)
          · rename_i c4
            rw [if_neg c4]
            split at h
            · rename_i c5
              rw [if_pos c5]
              have hti : s.i + 1 ≤ q := by omega
              have hf := E.fin (s.i + 1) hti
              have he : (!ere && decide (d + s.i + 1 < M.length) && !seesAt M (d + s.i + 1) [92, 41]) = (!ere && decide (s.i + 1 < L.length) && !seesAt L (s.i + 1) [92, 41]) := by
                cases ere with
                | true => rfl
                | false =>
                  have := hf rfl
                  rw [Nat.add_assoc, Bool.and_assoc, this, Bool.and_assoc]
              unfold endL at h ⊢
              simp only
              rw [he]
              split at h
              · rename_i c6; cases h; rw [if_pos c6]; exact .inl (by simp only [List.map_cons, List.map_nil, sh_one, Nat.add_assoc])
              · rename_i c6; cases h; rw [if_neg c6]; exact .inl (by simp only [List.map_cons, List.map_nil, Nat.add_assoc]; rfl)
            · rename_i c5
              rw [if_neg c5]
              split at h
              · rename_i c6
                rw [if_pos c6]
                have hw : wideB ere = 1 := by cases ere <;> simp_all [wideB]
                have h3 := h
                unfold withTrue at h3
                split at h3
                · rename_i re u hx
                  cases h3
                  exact (HG _ _ (by omega) hx ht hn).withTrue
                · cases h3
              · rename_i c6
                cases h
                rw [if_neg c6]
                exact .inl (by simp only [List.map_cons, List.map_nil, sh_one, Nat.add_assoc])
end
end Go.Proofs.Ytbdjcmhfcdamiaa
