/- Plain laws: what the reader makes is a well shaped tree. -/
import Derived.Test.YtbdjcmhfcdamiaaDoorTs
import Derived.Test.YtbdjcmhfcdamiaaDoorRt
namespace Go.Proofs.YtbdjcmhfcdamiaaDoor

theorem kidsN_mono {g h : Nat → List Bool → Option (Nat × List Bool)} (hg : ∀ i en r, g i en = some r → h i en = some r) : ∀ (k i : Nat) (en : List Bool) (r : Nat × List Bool), kidsN g k i en = some r → kidsN h k i en = some r
  | 0, _, _, _, he => he
  | k + 1, i, en, r, he => by
    unfold kidsN at he ⊢
    split at he
    · cases he
    · rename_i j en1 h1
      rw [hg _ _ _ h1]
      exact kidsN_mono hg k _ _ _ he
theorem nodeN_succ (re : List Nd) : ∀ (f g i : Nat) (en : List Bool) (r : Nat × List Bool), nodeN re f g i en = some r → nodeN re (f + 1) g i en = some r
  | 0, _, _, _, _, h => by simp [nodeN] at h
  | f + 1, g, i, en, r, h => by
    rw [nodeN] at h ⊢
    split at h
    · cases h
    · split at h
      · cases h
      · split at h
        · cases h
        · rename_i n _ hgood href
          rw [if_neg hgood, if_neg href]
          split at h
          · rename_i h7
            rw [if_pos h7]
            split at h
            · cases h
            · rename_i hc
              rw [if_neg hc]
              split at h
              · cases h
              · rename_i j en1 hk
                rw [kidsN_mono (fun i en r => nodeN_succ re f (g + 1) i en r) _ _ _ _ hk]
                exact h
          · rename_i h7
            rw [if_neg h7]
            exact kidsN_mono (fun i en r => nodeN_succ re f g i en r) _ _ _ _ h
theorem nodeN_mono (re : List Nd) {f f' g i : Nat} {en : List Bool} {r : Nat × List Bool} (hf : f ≤ f') (h : nodeN re f g i en = some r) : nodeN re f' g i en = some r := by
  induction hf with
  | refl => exact h
  | step _ ih => exact nodeN_succ re _ _ _ _ _ ih

/-- A tree among others, where so many groups stand around it; so many trees. -/
def Tr (f g : Nat) (l : List Nd) (a b : List Bool) : Prop := ∀ pre post, nodeN (pre ++ l ++ post) f g pre.length a = some (pre.length + l.length, b)
def Trs (f g n : Nat) (l : List Nd) (a b : List Bool) : Prop := ∀ pre post, kidsN (nodeN (pre ++ l ++ post) f g) n pre.length a = some (pre.length + l.length, b)
theorem Tr.mono {f f' g : Nat} {l : List Nd} {a b : List Bool} (h : Tr f g l a b) (hf : f ≤ f') : Tr f' g l a b := fun pre post => nodeN_mono _ hf (h pre post)
theorem Trs.nil (f g : Nat) (a : List Bool) : Trs f g 0 [] a a := fun pre post => by simp [kidsN]
theorem kidsN_add (g : Nat → List Bool → Option (Nat × List Bool)) : ∀ (m n i : Nat) (en : List Bool) (j : Nat) (en' : List Bool), kidsN g m i en = some (j, en') → kidsN g (m + n) i en = kidsN g n j en'
  | 0, n, i, en, j, en', h => by
    simp only [kidsN, Option.some.injEq, Prod.mk.injEq] at h
    rw [h.1, h.2, Nat.zero_add]
  | m + 1, n, i, en, j, en', h => by
    rw [kidsN] at h
    rw [show m + 1 + n = (m + n) + 1 by omega, kidsN]
    split at h
    · cases h
    · rename_i j1 en1 h1
      exact kidsN_add g m n _ _ _ _ h
theorem Trs.append {f g m n : Nat} {l l' : List Nd} {a b c : List Bool} (h : Trs f g m l a b) (h' : Trs f g n l' b c) : Trs f g (m + n) (l ++ l') a c := fun pre post => by
  have h1 := h pre (l' ++ post)
  have h2 := h' (pre ++ l) post
  rw [show pre ++ (l ++ l') ++ post = pre ++ l ++ (l' ++ post) by simp]
  rw [kidsN_add _ m n _ _ _ _ h1]
  rw [show pre ++ l ++ l' ++ post = pre ++ l ++ (l' ++ post) by simp, List.length_append] at h2
  rw [h2, List.length_append]
  simp only [Nat.add_assoc]
theorem Tr.one {f g : Nat} {l : List Nd} {a b : List Bool} (h : Tr f g l a b) : Trs f g 1 l a b := fun pre post => by
  simp only [kidsN, h pre post]
theorem get_mid (pre l post : List Nd) (x : Nd) : (pre ++ (x :: l) ++ post)[pre.length]? = some x := by simp
/-- A node that is no group and no reference, ahead of its kids. -/
theorem Tr.node {f g : Nat} {x : Nd} {l : List Nd} {a b : List Bool} (hx : goodN x = true) (h8 : x.op ≠ 8) (h7 : x.op ≠ 7) (h : Trs f g x.kids.toNat l a b) : Tr (f + 1) g (x :: l) a b := fun pre post => by
  have h1 := h (pre ++ [x]) post
  rw [show pre ++ [x] ++ l ++ post = pre ++ (x :: l) ++ post by simp, show (pre ++ [x]).length = pre.length + 1 by simp] at h1
  rw [nodeN, get_mid]
  simp only [hx, Bool.not_true, Bool.false_eq_true, if_false, show (x.op == 8) = false by simpa using h8, Bool.false_and, if_neg h7]
  rw [h1, List.length_cons]
  simp only [Nat.add_assoc, Nat.add_comm 1]
theorem Tr.leaf {f g : Nat} {x : Nd} {a : List Bool} (hx : goodN x = true) (h8 : x.op ≠ 8) (h7 : x.op ≠ 7) (hk : x.kids = 0) : Tr (f + 1) g [x] a a :=
  Tr.node hx h8 h7 (by rw [hk]; exact Trs.nil _ _ _)
theorem Tr.ref {f g n : Nat} {a : List Bool} (h1 : 1 ≤ n) (h2 : n ≤ a.length) (h3 : a.getD (n - 1) false = true) : Tr (f + 1) g [refN n] a a := fun pre post => by
  rw [nodeN, get_mid]
  have hg : goodN (refN n) = true := by simp [goodN, refN]
  have hb : (decide ((refN n).n < 1) || decide ((a.length : Int) < (refN n).n) || !a.getD ((refN n).n.toNat - 1) false) = false := by
    have hn1 : ¬ (refN n).n < 1 := by show ¬ (n : Int) < 1; omega
    have hn2 : ¬ (a.length : Int) < (refN n).n := by show ¬ (a.length : Int) < (n : Int); omega
    have hn3 : (refN n).n.toNat = n := rfl
    rw [decide_eq_false hn1, decide_eq_false hn2, hn3, h3]
    rfl
  simp only [hg, Bool.not_true, Bool.false_eq_true, if_false, hb, Bool.and_false]
  rw [if_neg (by show ¬ (8 : Int) = 7; decide)]
  simp [refN, kidsN]
theorem Tr.group {f g : Nat} {l : List Nd} {a b : List Bool} (ha : a.length < 255) (hg : g < 64) (h : Tr f (g + 1) l (a ++ [false]) b) : Tr (f + 1) g (groupN (a.length + 1) :: l) a (b.set a.length true) := fun pre post => by
  have h1 := h.one (pre ++ [groupN (a.length + 1)]) post
  rw [show pre ++ [groupN (a.length + 1)] ++ l ++ post = pre ++ (groupN (a.length + 1) :: l) ++ post by simp, show (pre ++ [groupN (a.length + 1)]).length = pre.length + 1 by simp] at h1
  rw [nodeN, get_mid]
  have hgd : goodN (groupN (a.length + 1)) = true := by simp [goodN, groupN]
  simp only [hgd, Bool.not_true, Bool.false_eq_true, if_false, show ((groupN (a.length + 1)).op == 8) = false by rfl, Bool.false_and]
  rw [if_pos (by rfl), if_neg (by simp only [groupN]; omega)]
  rw [show (groupN (a.length + 1)).kids.toNat = 1 from rfl, h1]
  simp only [List.length_cons, Nat.add_assoc, Nat.add_comm 1]

theorem numberL_ge (L : List Mk) : ∀ (f : Nat) (n : Int) (i : Nat), -1 ≤ n → -1 ≤ (numberL L f n i).1
  | 0, n, i, h1 => h1
  | f + 1, n, i, h1 => by
    unfold numberL
    split
    · exact h1
    · split
      · exact h1
      · rename_i h3
        simp only [Bool.or_eq_true, decide_eq_true_eq, not_or] at h3
        exact numberL_ge L f _ _ (by omega)
theorem intervalL_good {ere : Bool} {L : List Mk} {s : Rst} {lo hi : Int} {t : Rst} (h : intervalL ere L s = .ok (lo, hi) t) : goodN (repN lo hi) = true ∧ t.ended = s.ended := by
  unfold intervalL at h
  have h0 := numberL_ge L (L.length - (s.i + wideB ere)) (-1) (s.i + wideB ere) (by omega)
  change -1 ≤ (numL L (s.i + wideB ere)).1 at h0
  generalize numL L (s.i + wideB ere) = a at h h0
  obtain ⟨b, hb⟩ : ∃ b, b = (if seesAt L a.2 [44] then numL L (a.2 + 1) else a) := ⟨_, rfl⟩
  have hb1 : -1 ≤ b.1 := by
    rw [hb]
    split
    · exact numberL_ge L _ _ _ (by omega)
    · exact h0
  simp only [← hb] at h
  split at h
  · cases h
  · rename_i hc
    simp only [Bool.or_eq_true, Bool.and_eq_true, decide_eq_true_eq, not_or, not_and] at hc
    cases h
    refine ⟨?_, rfl⟩
    unfold goodN repN
    simp only [beq_self_eq_true, if_true, true_or, Bool.or_true, Bool.and_true, show ((6 : Int) == 1) = false from rfl, show ((6 : Int) == 7) = false from rfl, show ((6 : Int) == 8) = false from rfl, Bool.false_or]
    rw [decide_eq_true (show (0 : Int) ≤ a.1 by omega), decide_eq_true (show a.1 ≤ 255 by omega)]
    by_cases hm : b.1 = -1
    · rw [hm]; rfl
    · rw [decide_eq_true (show a.1 ≤ b.1 by omega), decide_eq_true (show b.1 ≤ 255 by omega)]
      simp
theorem dupL_good {ere : Bool} {L : List Mk} {s : Rst} {d : Nd} {t : Rst} (h : dupL ere L s = .ok d t) : goodN d = true ∧ t.ended = s.ended ∧ d.op = 6 ∧ d.kids = 1 := by
  unfold dupL at h
  split at h
  · cases h; exact ⟨by decide, rfl, rfl, rfl⟩
  · split at h
    · cases h; exact ⟨by decide, rfl, rfl, rfl⟩
    · split at h
      · cases h; exact ⟨by decide, rfl, rfl, rfl⟩
      · split at h
        · cases h
        · rename_i hi
          cases h
          exact ⟨(intervalL_good hi).1, (intervalL_good hi).2, rfl, rfl⟩
theorem setN_good (c : Cls) : goodN (setN c) = true := by simp [goodN, setN]
theorem oneN_good (b : Nat) : goodN (oneN b) = true := by simp [goodN, oneN]

theorem catN_good {k : Nat} (h : k ≠ 1) : goodN (catN k) = true := by
  by_cases hz : k = 0
  · subst hz; rfl
  · have h2 : (2 : Int) ≤ (k : Int) := by omega
    simp [goodN, catN, h2]
theorem altN_good {k : Nat} (h : 2 ≤ k) : goodN (altN k) = true := by
  have h2 : (2 : Int) ≤ (k : Int) := by omega
  simp [goodN, altN, h2]
/-- What the parts come to. -/
theorem atomL_tree {ere first : Bool} {L : List Mk} {grp : Rst → Out (List Nd)} {f g : Nat} {s : Rst} {r : List Nd × Bool} {t : Rst} (hl : s.ended.length ≤ 255) (hg : ∀ re t, grp s = .ok re t → Tr (f + 1) g re s.ended t.ended ∧ t.ended.length ≤ 255)
    (h : atomL ere first L grp s = .ok r t) : Tr (f + 1) g r.1 s.ended t.ended ∧ t.ended.length ≤ 255 := by
  have one : ∀ (x : Nd), goodN x = true → x.op ≠ 8 → x.op ≠ 7 → x.kids = 0 → Tr (f + 1) g [x] s.ended s.ended ∧ s.ended.length ≤ 255 := fun x h1 h2 h3 h4 => ⟨Tr.leaf h1 h2 h3 h4, hl⟩
  have hone : ∀ b, Tr (f + 1) g [oneN b] s.ended s.ended ∧ s.ended.length ≤ 255 := fun b => one _ (oneN_good b) (by show (1 : Int) ≠ 8; decide) (by show (1 : Int) ≠ 7; decide) rfl
  have hset : ∀ c, Tr (f + 1) g [setN c] s.ended s.ended ∧ s.ended.length ≤ 255 := fun c => one _ (setN_good c) (by show (1 : Int) ≠ 8; decide) (by show (1 : Int) ≠ 7; decide) rfl
  unfold atomL at h
  simp only at h
  split at h
  · cases h; exact hone _
  · split at h
    · unfold anyL at h; cases h; exact hset _
    · split at h
      · unfold brackL at h
        split at h
        · cases h
        · cases h; exact hset _
      · split at h
        · unfold escapeL at h
          split at h
          · cases h
          · split at h
            · cases h
            · simp only at h
              split at h
              · unfold withTrue at h
                split at h
                · rename_i hx; cases h; exact hg _ _ hx
                · cases h
              · split at h
                · cases h; exact hone _
                · split at h
                  · cases h; exact hone _
                  · split at h
                    · rename_i hd
                      simp only [Bool.and_eq_true, decide_eq_true_eq] at hd
                      split at h
                      · cases h
                      · rename_i h1
                        split at h
                        · cases h
                        · rename_i h2
                          cases h
                          exact ⟨Tr.ref (by omega) (by omega) (by simpa using h2), hl⟩
                    · cases h
        · split at h
          · unfold beginL at h
            split at h
            · cases h; exact hone _
            · cases h; exact one _ (by decide) (by decide) (by decide) rfl
          · split at h
            · unfold endL at h
              split at h
              · cases h; exact hone _
              · cases h; exact one _ (by decide) (by decide) (by decide) rfl
            · split at h
              · unfold withTrue at h
                split at h
                · rename_i hx; cases h; exact hg _ _ hx
                · cases h
              · cases h; exact hone _
theorem rowL_tree {ere top : Bool} {L : List Mk} {grp : Rst → Out (List Nd)} {f g : Nat} (hg : ∀ s re t, s.ended.length ≤ 255 → grp s = .ok re t → Tr (f + 1) g re s.ended t.ended ∧ t.ended.length ≤ 255) (a : List Bool) :
    ∀ (fu : Nat) (all : List Nd) (n : Nat) (lead : Bool) (s : Rst) (r : Nat × List Nd) (t : Rst), s.ended.length ≤ 255 → Trs (f + 2) g n all a s.ended → rowL ere top L grp fu all n lead s = .ok r t → Trs (f + 2) g r.1 r.2 a t.ended ∧ t.ended.length ≤ 255
  | 0, _, _, _, _, _, _, _, _, h => by simp [rowL] at h
  | fu + 1, all, n, lead, s, r, t, hl, ha, h => by
    unfold rowL at h
    split at h
    · cases h; exact ⟨ha, hl⟩
    · split at h
      · cases h; exact ⟨ha, hl⟩
      · split at h
        · split at h
          · cases h
          · cases h; exact ⟨ha, hl⟩
        · split at h
          · cases h
          · split at h
            · cases h
            · rename_i re takes u hx
              have h1 := atomL_tree hl (fun re t => hg s re t hl) hx
              simp only at h h1
              split at h
              · split at h
                · cases h
                · rename_i d v hd
                  have h2 := dupL_good hd
                  have h3 : Tr (f + 2) g (d :: re) s.ended u.ended := Tr.node h2.1 (by rw [h2.2.2.1]; decide) (by rw [h2.2.2.1]; decide) (by rw [h2.2.2.2]; exact h1.1.one)
                  exact rowL_tree hg a fu _ _ _ _ _ _ (by rw [h2.2.1]; exact h1.2) (by rw [h2.2.1]; exact ha.append h3.one) h
              · exact rowL_tree hg a fu _ _ _ _ _ _ h1.2 (ha.append (h1.1.mono (Nat.le_succ _)).one) h
theorem sidesL_tree {ere : Bool} {L : List Mk} {row : Rst → Out (Nat × List Nd)} {f g : Nat} (hr : ∀ s r t, s.ended.length ≤ 255 → row s = .ok r t → Trs (f + 2) g r.1 r.2 s.ended t.ended ∧ t.ended.length ≤ 255) (a : List Bool) :
    ∀ (fu : Nat) (all : List Nd) (n : Nat) (s : Rst) (re : List Nd) (t : Rst), s.ended.length ≤ 255 → Trs (f + 3) g n all a s.ended → sidesL ere L row fu all n s = .ok re t → Tr (f + 4) g re a t.ended ∧ t.ended.length ≤ 255
  | 0, _, _, _, _, _, _, _, h => by simp [sidesL] at h
  | fu + 1, all, n, s, re, t, hl, ha, h => by
    unfold sidesL at h
    split at h
    · cases h
    · rename_i parts r u hx
      have h1 := hr _ _ _ hl hx
      simp only at h h1
      split at h
      · cases h
      · have h2 : Tr (f + 3) g (if parts = 1 then r else catN parts :: r) s.ended u.ended := by
          split
          · rename_i hp
            subst hp
            have h3 := h1.1
            intro pre post
            have h4 := h3 pre post
            simp only [kidsN] at h4
            split at h4
            · cases h4
            · rename_i j en hn
              cases h4
              exact nodeN_succ _ _ _ _ _ _ hn
          · rename_i hp
            refine Tr.node ?_ (by show (4 : Int) ≠ 8; decide) (by show (4 : Int) ≠ 7; decide) (by rw [show (catN parts).kids.toNat = parts from rfl]; exact h1.1)
            exact catN_good hp
        have h5 := ha.append h2.one
        split at h
        · cases h
          split
          · rename_i hn
            refine ⟨Tr.node ?_ (by show (5 : Int) ≠ 8; decide) (by show (5 : Int) ≠ 7; decide) (by rw [show (altN (n + 1)).kids.toNat = n + 1 from rfl]; exact h5), h1.2⟩
            exact altN_good (by omega)
          · rename_i hn
            have hn0 : n = 0 := by omega
            subst hn0
            refine ⟨fun pre post => ?_, h1.2⟩
            have h4 := h5 pre post
            rw [Nat.zero_add] at h4
            simp only [kidsN] at h4
            split at h4
            · cases h4
            · rename_i j en hn
              cases h4
              exact nodeN_succ _ _ _ _ _ _ hn
        · exact sidesL_tree hr a fu _ _ ⟨u.i + 1, u.ended⟩ _ _ h1.2 h5 h
theorem groupL_tree {ere : Bool} {L : List Mk} : ∀ (k : Nat), k ≤ 64 → ∀ (s : Rst) (re : List Nd) (t : Rst), s.ended.length ≤ 255 → groupL ere L k s = .ok re t → Tr (4 * k + 1) (64 - k) re s.ended t.ended ∧ t.ended.length ≤ 255
  | 0, _, _, _, _, _, h => by simp [groupL] at h
  | k + 1, hk, s, re, t, hl, h => by
    unfold groupL at h
    split at h
    · cases h
    · rename_i hne
      split at h
      · cases h
      · rename_i r u hx
        have h1 := sidesL_tree (f := 4 * k) (g := 64 - k) (fun s r t h0 h => rowL_tree (fun s re t => groupL_tree k (by omega) s re t) s.ended _ _ _ _ _ _ _ h0 (Trs.nil _ _ _) h) (s.ended ++ [false]) _ _ _ _ _ _ (by simp; omega) (Trs.nil _ _ _) hx
        split at h
        · cases h
        · cases h
          rw [show 64 - k = (64 - (k + 1)) + 1 by omega] at h1
          exact ⟨Tr.group (by omega) (by omega) h1.1, by simpa using h1.2⟩
theorem sidesK_tree {ere : Bool} {L : List Mk} (k : Nat) (hk : k ≤ 64) {s : Rst} {re : List Nd} {t : Rst} (hl : s.ended.length ≤ 255) (h : sidesK ere L k s = .ok re t) : Tr (4 * k + 4) (64 - k) re s.ended t.ended ∧ t.ended.length ≤ 255 :=
  sidesL_tree (f := 4 * k) (g := 64 - k) (fun _ _ _ h0 h => rowL_tree (fun s re t => groupL_tree k hk s re t) _ _ _ _ _ _ _ _ h0 (Trs.nil _ _ _) h) s.ended _ _ _ _ _ _ hl (Trs.nil _ _ _) h
/-- All that is read at the top. -/
theorem sidesK_top {ere : Bool} {L : List Mk} {re : List Nd} {t : Rst} (h : sidesK ere L 64 ⟨0, []⟩ = .ok re t) : nodeN re 260 0 0 [] = some (re.length, t.ended) := by
  have := (sidesK_tree 64 (Nat.le_refl _) (by simp) h).1 [] []
  simpa using this
end Go.Proofs.YtbdjcmhfcdamiaaDoor
