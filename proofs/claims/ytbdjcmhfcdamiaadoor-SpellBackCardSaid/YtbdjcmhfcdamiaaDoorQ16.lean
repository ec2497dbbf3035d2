/- Parts: Pj Kb Ea Eb Ec Ed. -/
import Derived.Test.YtbdjcmhfcdamiaaDoorQ15
import Derived.Test.YtbdjcmhfcdamiaaDoorQ14
import Derived.Test.YtbdjcmhfcdamiaaDoorQ0
import Derived.Lib.ItoaNum
/- The plain law of intervals: an interval of any two numbers. No program in sight. -/
namespace Go.Proofs.YtbdjcmhfcdamiaaDoor

/-- Special marks of bytes. -/
def mk (b : Nat) : Mk := ⟨b, false⟩
def step (n : Int) (b : Nat) : Int := min (max n 0 * 10 + ((b : Int) - 48)) 256
theorem numberL_digits {L : List Mk} {rest : List Mk} (hr : ∀ m l, rest = m :: l → m.p = true ∨ m.b < 48 ∨ 57 < m.b) :
    ∀ (ds : List Nat) (f i : Nat) (n : Int), L.drop i = ds.map mk ++ rest → (∀ d ∈ ds, 48 ≤ d ∧ d ≤ 57) → ds.length ≤ f → L.length ≤ i + f → numberL L f n i = (ds.foldl step n, i + ds.length) := by
  intro ds
  induction ds with
  | nil =>
    intro f i n hL _ _ hlen
    cases f with
    | zero => rfl
    | succ f =>
      simp only [List.map_nil, List.nil_append] at hL
      rw [numberL]
      split
      · rfl
      · rename_i hi
        have hi' : i < L.length := by omega
        have hd : L.drop i = L[i] :: L.drop (i + 1) := List.drop_eq_getElem_cons hi'
        have hm : markAt L i = L[i] := by simp [markAt, List.getD_eq_getElem?_getD, List.getElem?_eq_getElem hi']
        rw [if_pos]
        · rfl
        · rw [hm]
          rcases hr L[i] (L.drop (i + 1)) (by rw [← hL, hd]) with h | h | h
          · simp [h]
          · simp [h]
          · simp [h]
  | cons d ds ih =>
    intro f i n hL hd hf hlen
    cases f with
    | zero => simp at hf
    | succ f =>
      have hi : i < L.length := by
        by_cases h : i < L.length
        · exact h
        · rw [List.drop_eq_nil_of_le (by omega)] at hL
          simp at hL
      have hdr : L.drop i = L[i] :: L.drop (i + 1) := List.drop_eq_getElem_cons hi
      rw [hdr] at hL
      simp only [List.map_cons, List.cons_append, List.cons.injEq] at hL
      have hm : markAt L i = mk d := by simp [markAt, List.getD_eq_getElem?_getD, List.getElem?_eq_getElem hi, hL.1]
      have hdd := hd d (List.mem_cons_self ..)
      rw [numberL, if_neg (by omega), hm, if_neg (show ¬ ((mk d).p || decide ((mk d).b < 48) || decide (57 < (mk d).b)) = true by show ¬ (false || decide (d < 48) || decide (57 < d)) = true; rw [decide_eq_false (show ¬ d < 48 by omega), decide_eq_false (show ¬ 57 < d by omega)]; decide)]
      rw [show (mk d).b = d from rfl]
      rw [ih f (i + 1) _ hL.2 (fun x hx => hd x (List.mem_cons_of_mem _ hx)) (by simp only [List.length_cons] at hf; omega) (by omega)]
      simp only [List.foldl_cons, step, List.length_cons]
      congr 1
      omega
/-- The bytes of a number's numeral. -/
def digB (u : Nat) : List Nat := (Lib.decDigits u).map (·.toNat)
theorem digB_small {u : Nat} (h : u < 10) : digB u = [48 + u] := by
  rw [digB, Lib.decDigits, dif_pos h]
  simp only [List.map_cons, List.map_nil, List.cons.injEq, and_true]
  rw [UInt8.toNat_ofNat']
  omega
theorem digB_big {u : Nat} (h : ¬ u < 10) : digB u = digB (u / 10) ++ [48 + u % 10] := by
  rw [digB, Lib.decDigits, dif_neg h, List.map_append, ← digB]
  congr 1
  simp only [List.map_cons, List.map_nil, List.cons.injEq, and_true]
  rw [UInt8.toNat_ofNat']
  omega
theorem digB_digit (u : Nat) : ∀ d ∈ digB u, 48 ≤ d ∧ d ≤ 57 := by
  induction u using Nat.strongRecOn with
  | ind u ih =>
    by_cases h : u < 10
    · rw [digB_small h]; intro d hd; simp at hd; omega
    · rw [digB_big h]
      intro d hd
      rcases List.mem_append.1 hd with hd | hd
      · exact ih (u / 10) (by omega) d hd
      · simp at hd; omega
theorem digB_fold (u : Nat) : (digB u).foldl step (-1) = min (u : Int) 256 := by
  induction u using Nat.strongRecOn with
  | ind u ih =>
    by_cases h : u < 10
    · rw [digB_small h]; simp only [List.foldl_cons, List.foldl_nil, step]; omega
    · rw [digB_big h, List.foldl_append, ih (u / 10) (by omega)]
      simp only [List.foldl_cons, List.foldl_nil, step]
      omega
theorem digB_len (u : Nat) : 0 < (digB u).length := by
  by_cases h : u < 10
  · rw [digB_small h]; simp
  · rw [digB_big h]; simp
theorem digB_len20 : ∀ (k u : Nat), u < 10 ^ (k + 1) → (digB u).length ≤ k + 1
  | 0, u, h => by rw [digB_small (by omega)]; simp
  | k + 1, u, h => by
    by_cases h1 : u < 10
    · rw [digB_small h1]; simp
    · rw [digB_big h1, List.length_append, List.length_singleton]
      have := digB_len20 k (u / 10) (by rw [Nat.pow_succ] at h; omega)
      omega
theorem numL_digits {L rest : List Mk} (hr : ∀ m l, rest = m :: l → m.p = true ∨ m.b < 48 ∨ 57 < m.b) {i u : Nat} (hL : L.drop i = (digB u).map mk ++ rest) : numL L i = (min (u : Int) 256, i + (digB u).length) := by
  have hlen : L.length - i = (digB u).length + rest.length := by rw [← List.length_drop, hL, List.length_append, List.length_map]
  rw [numL, numberL_digits hr (digB u) _ i (-1) hL (digB_digit u) (by omega) (by omega), digB_fold]
theorem numL_none {L : List Mk} {i : Nat} {rest : List Mk} (hr : ∀ m l, rest = m :: l → m.p = true ∨ m.b < 48 ∨ 57 < m.b) (hL : L.drop i = rest) : numL L i = (-1, i) := by
  rw [numL, numberL_digits hr [] _ i (-1) (by simpa using hL) (by simp) (by simp) (by omega)]
  rfl
/-- A number's text. -/
def itoB (m : Int) : List Nat := if m < 0 then 45 :: digB m.natAbs else digB m.toNat
theorem seesL_map : ∀ (l s : List Nat), seesL (l.map mk) s = s.isPrefixOf l
  | _, [] => by cases ‹List Nat› <;> rfl
  | [], _ :: _ => rfl
  | x :: l, c :: s => by
    rw [List.map_cons, seesL, seesL_map l s, List.isPrefixOf]
    show (!false && x == c && s.isPrefixOf l) = (c == x && s.isPrefixOf l)
    rw [Bool.not_false, Bool.true_and, Bool.beq_comm (a := c)]
theorem seesAt_map (l s : List Nat) (i : Nat) : seesAt (l.map mk) i s = s.isPrefixOf (l.drop i) := by
  rw [seesAt, ← List.map_drop, seesL_map]
theorem markAt_map (l : List Nat) (i : Nat) : markAt (l.map mk) i = mk (l.getD i 0) := by
  rw [markAt, List.getD_eq_getElem?_getD, List.getElem?_map, List.getD_eq_getElem?_getD]
  cases l[i]? <;> rfl
theorem count_row (ere : Bool) (l : List Nat) (grp : Rst → Out (List Nd)) (k : Nat) :
    rowL ere true ((97 :: (signB ere 123 ++ l)).map mk) grp (k + 1) [] 0 true ⟨0, []⟩ = match intervalL ere ((97 :: (signB ere 123 ++ l)).map mk) ⟨1, []⟩ with
      | .no e i => .no e i
      | .ok (lo, hi) t => rowL ere true ((97 :: (signB ere 123 ++ l)).map mk) grp k [repN lo hi, oneN 97] 1 false t := by
  have h0 : seesAt ((97 :: (signB ere 123 ++ l)).map mk) 0 [124] = false := by rw [seesAt_map]; rfl
  have h1 : seesAt ((97 :: (signB ere 123 ++ l)).map mk) 0 (signB ere 41) = false := by rw [seesAt_map]; cases ere <;> rfl
  have h2 : repeatsL ere ((97 :: (signB ere 123 ++ l)).map mk) 0 = false := by simp only [repeatsL, seesAt_map]; cases ere <;> rfl
  have h3 : atomL ere true ((97 :: (signB ere 123 ++ l)).map mk) grp ⟨0, []⟩ = .ok ([oneN 97], true) ⟨1, []⟩ := by simp only [atomL, markAt_map]; cases ere <;> rfl
  have h4 : repeatsL ere ((97 :: (signB ere 123 ++ l)).map mk) 1 = true := by simp only [repeatsL, seesAt_map]; cases ere <;> rfl
  have h5 : dupL ere ((97 :: (signB ere 123 ++ l)).map mk) ⟨1, []⟩ = match intervalL ere ((97 :: (signB ere 123 ++ l)).map mk) ⟨1, []⟩ with
      | .no e i => .no e i
      | .ok (lo, hi) t => .ok (repN lo hi) t := by
    rw [dupL, if_neg (by rw [seesAt_map]; cases ere <;> exact Bool.false_ne_true), if_neg (by rw [seesAt_map]; cases ere <;> exact Bool.false_ne_true), if_neg (by rw [seesAt_map]; cases ere <;> exact Bool.false_ne_true)]
    cases intervalL ere ((97 :: (signB ere 123 ++ l)).map mk) ⟨1, []⟩ <;> rfl
  rw [rowL, if_neg (by simp), h0, Bool.and_false, if_neg (by decide), h1, if_neg (by decide), h2, Bool.false_and, if_neg (by decide), show ((0 : Nat) == 0) = true from rfl, h3]
  dsimp only
  rw [h4, Bool.and_self, if_pos rfl, h5]
  cases intervalL ere ((97 :: (signB ere 123 ++ l)).map mk) ⟨1, []⟩ <;> rfl
theorem count_parse (ere : Bool) (l : List Nat) (hl : l.length ≤ 100) :
    (∀ e i, intervalL ere ((97 :: (signB ere 123 ++ l)).map mk) ⟨1, []⟩ = .no e i → parseL ere ((97 :: (signB ere 123 ++ l)).map mk) = .error (e, i)) ∧
    (∀ lo hi t, intervalL ere ((97 :: (signB ere 123 ++ l)).map mk) ⟨1, []⟩ = .ok (lo, hi) t → t.i = ((97 :: (signB ere 123 ++ l)).map mk).length → hi ≤ 255 → lo ≤ 255 → parseL ere ((97 :: (signB ere 123 ++ l)).map mk) = .ok [repN lo hi, oneN 97]) := by
  have hr := count_row ere l (groupL ere ((97 :: (signB ere 123 ++ l)).map mk) 64) ((97 :: (signB ere 123 ++ l)).map mk).length
  have hlen : ((97 :: (signB ere 123 ++ l)).map mk).length ≤ 103 := by rw [List.length_map, List.length_cons, List.length_append]; cases ere <;> simp [signB] <;> omega
  have hpos : 0 < ((97 :: (signB ere 123 ++ l)).map mk).length := by simp
  generalize (97 :: (signB ere 123 ++ l)).map mk = L at hr hlen hpos ⊢
  have hs : sidesK ere L 64 ⟨0, []⟩ = sidesL ere L (rowS ere true L (groupL ere L 64)) (L.length + 1) [] 0 ⟨0, []⟩ := rfl
  refine ⟨fun e i hi => ?_, fun lo hi t hi1 ht h1 h2 => ?_⟩
  · rw [parseL, if_neg (by omega), if_neg (by omega), hs, sidesL, rowS, hr, hi]
  · have hlast : rowL ere true L (groupL ere L 64) L.length [repN lo hi, oneN 97] 1 false t = .ok (1, [repN lo hi, oneN 97]) t := by
      obtain ⟨k, hk⟩ : ∃ k, L.length = k + 1 := ⟨L.length - 1, by omega⟩
      rw [hk, rowL, if_pos (by omega)]
    have h124 : seesAt L t.i [124] = false := by rw [seesAt, ht, List.drop_length]; rfl
    have hw : weighN [repN lo hi, oneN 97] 260 0 = some (min (timesN (repN lo hi) * 1 + 1) 16385, 2) := rfl
    rw [parseL, if_neg (by omega), if_neg (by omega), hs, sidesL, rowS, hr, hi1]
    dsimp only
    rw [hlast]
    dsimp only
    rw [h124, Bool.and_false]
    simp only [Bool.not_false, if_true, List.nil_append]
    rw [if_neg (by decide), if_neg (by decide)]
    dsimp only
    rw [hw]
    dsimp only
    rw [if_neg]
    show ¬ 16384 < min (timesN (repN lo hi) * 1 + 1) 16385
    have : timesN (repN lo hi) ≤ 256 := by
      simp only [timesN, repN]
      repeat' split
      all_goals omega
    omega
/-- The signs of an interval's text: its bytes. -/
def countB (ere : Bool) (body : List Nat) : List Nat := 97 :: (signB ere 123 ++ (body ++ signB ere 125))
theorem count_drop (ere : Bool) (body l : List Nat) (k : Nat) (h : (body ++ signB ere 125).drop k = l) : ((countB ere body).map mk).drop (1 + wideB ere + k) = l.map mk := by
  rw [← List.map_drop]
  congr 1
  rw [countB, ← h]
  cases ere
  · show (97 :: 92 :: 123 :: (body ++ signB false 125)).drop (1 + 2 + k) = _
    rw [show 1 + 2 + k = k + 3 by omega]
    rfl
  · show (97 :: 123 :: (body ++ signB true 125)).drop (1 + 1 + k) = _
    rw [show 1 + 1 + k = k + 2 by omega]
    rfl
theorem sign_head (ere : Bool) : ∀ m l, (signB ere 125).map mk = m :: l → m.p = true ∨ m.b < 48 ∨ 57 < m.b := by
  intro m l h
  cases ere
  · simp only [signB, Bool.false_eq_true, if_false, List.map_cons, List.cons.injEq] at h
    rw [← h.1]; right; right; show 57 < 92; decide
  · simp only [signB, if_true, List.map_cons, List.cons.injEq] at h
    rw [← h.1]; right; right; show 57 < 125; decide
theorem head_lt {x : Nat} {r : List Nat} (hx : x < 48) : ∀ m l, (x :: r).map mk = m :: l → m.p = true ∨ m.b < 48 ∨ 57 < m.b := by
  intro m l h
  simp only [List.map_cons, List.cons.injEq] at h
  rw [← h.1]; right; left; exact hx
/-- A number below zero: no digit. -/
theorem interval_neg (ere : Bool) (r : List Nat) : intervalL ere ((countB ere (45 :: r)).map mk) ⟨1, []⟩ = .no 43 1 := by
  have h := count_drop ere (45 :: r) (45 :: (r ++ signB ere 125)) 0 rfl
  have h1 : numL ((countB ere (45 :: r)).map mk) (1 + wideB ere) = (-1, 1 + wideB ere) := numL_none (head_lt (by decide)) h
  rw [intervalL]
  simp only
  rw [h1]
  rfl
theorem interval_dig (ere : Bool) (m : Nat) (r : List Nat) (hr : ∀ x l, (r ++ signB ere 125).map mk = x :: l → x.p = true ∨ x.b < 48 ∨ 57 < x.b) :
    numL ((countB ere (digB m ++ r)).map mk) (1 + wideB ere) = (min (m : Int) 256, 1 + wideB ere + (digB m).length) := by
  have h := count_drop ere (digB m ++ r) (digB m ++ (r ++ signB ere 125)) 0 (by rw [List.append_assoc]; rfl)
  rw [List.map_append] at h
  exact numL_digits hr h
theorem signB_len (ere : Bool) (c : Nat) : (signB ere c).length = wideB ere := by cases ere <;> rfl
theorem countB_len (ere : Bool) (body : List Nat) : ((countB ere body).map mk).length = 1 + wideB ere + body.length + wideB ere := by
  rw [List.length_map, countB, List.length_cons, List.length_append, List.length_append, signB_len, signB_len]; omega
theorem self_prefix : ∀ (l : List Nat), l.isPrefixOf l = true
  | [] => rfl
  | x :: l => by rw [List.isPrefixOf, self_prefix l, beq_self_eq_true, Bool.and_self]
/-- {m}. -/
theorem interval_one (ere : Bool) (m : Nat) : intervalL ere ((countB ere (digB m)).map mk) ⟨1, []⟩ = if m ≤ 255 then .ok ((m : Int), (m : Int)) ⟨((countB ere (digB m)).map mk).length, []⟩ else .no 43 1 := by
  have h1 := interval_dig ere m [] (sign_head ere)
  rw [List.append_nil] at h1
  have h2 := count_drop ere (digB m) (signB ere 125) (digB m).length (by rw [List.drop_left])
  have s1 : seesAt ((countB ere (digB m)).map mk) (1 + wideB ere + (digB m).length) [44] = false := by rw [seesAt, h2, seesL_map]; cases ere <;> rfl
  have s2 : seesAt ((countB ere (digB m)).map mk) (1 + wideB ere + (digB m).length) (signB ere 125) = true := by rw [seesAt, h2, seesL_map]; exact self_prefix _
  rw [intervalL]
  simp only
  rw [h1]
  simp only
  rw [s1, if_neg Bool.false_ne_true]
  simp only
  rw [s2, countB_len]
  by_cases hm : m ≤ 255
  · rw [if_pos hm, show min (m : Int) 256 = m by omega, decide_eq_false (show ¬ (m : Int) < 0 by omega), decide_eq_false (show ¬ 255 < (m : Int) by omega), decide_eq_false (show ¬ (m : Int) < (m : Int) by omega), Bool.and_false]
    rfl
  · rw [if_neg hm, show min (m : Int) 256 = 256 by omega]
    rfl
theorem count_drop2 (ere : Bool) (m : Nat) (r l : List Nat) (k : Nat) (h : (r ++ signB ere 125).drop k = l) : ((countB ere (digB m ++ r)).map mk).drop (1 + wideB ere + (digB m).length + k) = l.map mk := by
  rw [Nat.add_assoc]
  refine count_drop ere (digB m ++ r) l ((digB m).length + k) ?_
  rw [List.append_assoc, List.drop_append, List.drop_of_length_le (by omega), List.nil_append, ← h]
  congr 1
  omega
/-- {m,}. -/
theorem interval_more (ere : Bool) (m : Nat) : intervalL ere ((countB ere (digB m ++ [44])).map mk) ⟨1, []⟩ = if m ≤ 255 then .ok ((m : Int), -1) ⟨((countB ere (digB m ++ [44])).map mk).length, []⟩ else .no 43 1 := by
  have h1 := interval_dig ere m [44] (head_lt (by decide))
  have h2 := count_drop2 ere m [44] (44 :: signB ere 125) 0 rfl
  have h3 := count_drop2 ere m [44] (signB ere 125) 1 rfl
  have s1 : seesAt ((countB ere (digB m ++ [44])).map mk) (1 + wideB ere + (digB m).length) [44] = true := by rw [seesAt, ← Nat.add_zero (_ + (digB m).length), h2, seesL_map]; rfl
  have s2 : seesAt ((countB ere (digB m ++ [44])).map mk) (1 + wideB ere + (digB m).length + 1) (signB ere 125) = true := by rw [seesAt, h3, seesL_map]; exact self_prefix _
  have h4 := numL_none (sign_head ere) h3
  rw [intervalL]
  simp only
  rw [h1]
  simp only
  rw [s1, if_pos rfl, h4]
  simp only
  rw [s2, countB_len, List.length_append]
  by_cases hm : m ≤ 255
  · rw [if_pos hm, show min (m : Int) 256 = m by omega, decide_eq_false (show ¬ (m : Int) < 0 by omega), decide_eq_false (show ¬ 255 < (m : Int) by omega)]
    simp [Nat.add_assoc]
  · rw [if_neg hm, show min (m : Int) 256 = 256 by omega]
    rfl
/-- {m,n}. -/
theorem interval_two (ere : Bool) (m n : Nat) : intervalL ere ((countB ere (digB m ++ (44 :: digB n))).map mk) ⟨1, []⟩ = if m ≤ 255 ∧ m ≤ n ∧ n ≤ 255 then .ok ((m : Int), (n : Int)) ⟨((countB ere (digB m ++ (44 :: digB n))).map mk).length, []⟩ else .no 43 1 := by
  have h1 := interval_dig ere m (44 :: digB n) (head_lt (by decide))
  have h2 := count_drop2 ere m (44 :: digB n) (44 :: (digB n ++ signB ere 125)) 0 rfl
  have h3 := count_drop2 ere m (44 :: digB n) (digB n ++ signB ere 125) 1 rfl
  have h5 := count_drop2 ere m (44 :: digB n) (signB ere 125) (1 + (digB n).length) (by rw [Nat.add_comm]; show (digB n ++ signB ere 125).drop (digB n).length = _; rw [List.drop_left])
  rw [← Nat.add_assoc] at h5
  have s1 : seesAt ((countB ere (digB m ++ (44 :: digB n))).map mk) (1 + wideB ere + (digB m).length) [44] = true := by rw [seesAt, ← Nat.add_zero (_ + (digB m).length), h2, seesL_map]; rfl
  have s2 : seesAt ((countB ere (digB m ++ (44 :: digB n))).map mk) (1 + wideB ere + (digB m).length + 1 + (digB n).length) (signB ere 125) = true := by rw [seesAt, h5, seesL_map]; exact self_prefix _
  rw [List.map_append] at h3
  have h4 := numL_digits (sign_head ere) h3
  rw [intervalL]
  simp only
  rw [h1]
  simp only
  rw [s1, if_pos rfl, h4]
  simp only
  rw [s2, countB_len, List.length_append, List.length_cons]
  by_cases hm : m ≤ 255 ∧ m ≤ n ∧ n ≤ 255
  · rw [if_pos hm, show min (m : Int) 256 = m by omega, show min (n : Int) 256 = n by omega, decide_eq_false (show ¬ (m : Int) < 0 by omega), decide_eq_false (show ¬ 255 < (m : Int) by omega), decide_eq_false (show ¬ 255 < (n : Int) by omega), decide_eq_false (show ¬ (n : Int) < (m : Int) by omega), Bool.and_false]
    simp [Nat.add_assoc, Nat.add_comm, Nat.add_left_comm]
  · rw [if_neg hm, if_pos]
    by_cases hm2 : 255 < m
    · rw [show min (m : Int) 256 = 256 by omega]; rfl
    · by_cases hn2 : 255 < n
      · rw [show min (n : Int) 256 = 256 by omega]; simp
      · rw [show min (m : Int) 256 = m by omega, show min (n : Int) 256 = n by omega, decide_eq_true (show 0 ≤ (n : Int) by omega), decide_eq_true (show (n : Int) < (m : Int) by omega)]
        simp
theorem interval_twoNeg (ere : Bool) (m : Nat) (r : List Nat) : intervalL ere ((countB ere (digB m ++ (44 :: 45 :: r))).map mk) ⟨1, []⟩ = .no 43 1 := by
  have h1 := interval_dig ere m (44 :: 45 :: r) (head_lt (by decide))
  have h2 := count_drop2 ere m (44 :: 45 :: r) (44 :: (45 :: r ++ signB ere 125)) 0 rfl
  have h3 := count_drop2 ere m (44 :: 45 :: r) (45 :: r ++ signB ere 125) 1 rfl
  have s1 : seesAt ((countB ere (digB m ++ (44 :: 45 :: r))).map mk) (1 + wideB ere + (digB m).length) [44] = true := by rw [seesAt, ← Nat.add_zero (_ + (digB m).length), h2, seesL_map]; rfl
  have s2 : seesAt ((countB ere (digB m ++ (44 :: 45 :: r))).map mk) (1 + wideB ere + (digB m).length + 1) (signB ere 125) = false := by rw [seesAt, h3, seesL_map]; cases ere <;> rfl
  have h4 := numL_none (head_lt (by decide)) h3
  rw [intervalL]
  simp only
  rw [h1]
  simp only
  rw [s1, if_pos rfl, h4]
  simp only
  rw [s2, if_pos (by simp)]
def countBody (m n way : Int) : List Nat := itoB m ++ (if way = 1 then [44] else if way = 2 then 44 :: itoB n else [])
def countHi (m n way : Int) : Int := if way = 1 then -1 else if way = 2 then n else m
def countGood (m n way : Int) : Bool := decide (0 ≤ m) && decide (m ≤ 255) && (decide (way = 1) || decide (m ≤ countHi m n way) && decide (countHi m n way ≤ 255))
theorem itoB_len {m : Int} (h1 : -9223372036854775808 ≤ m) (h2 : m ≤ 9223372036854775807) : (itoB m).length ≤ 20 := by
  unfold itoB
  split
  · rw [List.length_cons]
    have := digB_len20 18 m.natAbs (by omega)
    omega
  · have := digB_len20 18 m.toNat (by omega)
    omega
theorem countBody_len {m n : Int} (way : Int) (h1 : -9223372036854775808 ≤ m) (h2 : m ≤ 9223372036854775807) (h3 : -9223372036854775808 ≤ n) (h4 : n ≤ 9223372036854775807) : (countBody m n way).length ≤ 41 := by
  have a := itoB_len h1 h2
  have b := itoB_len h3 h4
  unfold countBody
  rw [List.length_append]
  split
  · simp; omega
  · split
    · simp; omega
    · simp; omega
theorem counts_law (ere : Bool) (m n way : Int) (h1 : -9223372036854775808 ≤ m) (h2 : m ≤ 9223372036854775807) (h3 : -9223372036854775808 ≤ n) (h4 : n ≤ 9223372036854775807) :
    parseL ere ((countB ere (countBody m n way)).map mk) = if countGood m n way then .ok [repN m (countHi m n way), oneN 97] else .error (43, 1) := by
  have hlen := countBody_len way h1 h2 h3 h4
  obtain ⟨p1, p2⟩ := count_parse ere (countBody m n way ++ signB ere 125) (by rw [List.length_append, signB_len]; cases ere <;> simp [wideB] <;> omega)
  rw [show (97 :: (signB ere 123 ++ (countBody m n way ++ signB ere 125))) = countB ere (countBody m n way) from rfl] at p1 p2
  by_cases hm : m < 0
  · have hg : countGood m n way = false := by unfold countGood; rw [decide_eq_false (show ¬ 0 ≤ m by omega)]; rfl
    rw [hg, if_neg Bool.false_ne_true]
    refine p1 43 1 ?_
    unfold countBody itoB
    rw [if_pos hm]
    exact interval_neg ere _
  obtain ⟨m, rfl⟩ : ∃ k : Nat, m = k := ⟨m.toNat, by omega⟩
  have hi : itoB m = digB m := by unfold itoB; rw [if_neg hm]; rfl
  by_cases hw1 : way = 1
  · subst hw1
    have hb : countBody m n 1 = digB m ++ [44] := by unfold countBody; rw [hi, if_pos rfl]
    have hh : countHi m n 1 = -1 := rfl
    rw [hb] at p1 p2 ⊢
    have hI := interval_more ere m
    by_cases h : m ≤ 255
    · rw [if_pos h] at hI
      have hg : countGood m n 1 = true := by unfold countGood; rw [decide_eq_true (show 0 ≤ (m : Int) by omega), decide_eq_true (show (m : Int) ≤ 255 by omega)]; rfl
      rw [hg, if_pos rfl, hh]
      exact p2 _ _ _ hI rfl (by omega) (by omega)
    · rw [if_neg h] at hI
      have hg : countGood m n 1 = false := by unfold countGood; rw [decide_eq_false (show ¬ (m : Int) ≤ 255 by omega), Bool.and_false]; rfl
      rw [hg, if_neg Bool.false_ne_true]
      exact p1 _ _ hI
  by_cases hw2 : way = 2
  · subst hw2
    have hh : countHi m n 2 = n := rfl
    by_cases hn : n < 0
    · have hb : countBody m n 2 = digB m ++ (44 :: 45 :: digB n.natAbs) := by unfold countBody; rw [hi, if_neg (by decide), if_pos rfl]; unfold itoB; rw [if_pos hn]
      have hg : countGood m n 2 = false := by unfold countGood; rw [hh, decide_eq_false (show ¬ (m : Int) ≤ n by omega), Bool.false_and, decide_eq_false (show ¬ (2 : Int) = 1 by decide), Bool.false_or, Bool.and_false]
      rw [hb] at p1 p2 ⊢
      rw [hg, if_neg Bool.false_ne_true]
      exact p1 _ _ (interval_twoNeg ere m _)
    obtain ⟨n, rfl⟩ : ∃ k : Nat, n = k := ⟨n.toNat, by omega⟩
    have hin : itoB n = digB n := by unfold itoB; rw [if_neg hn]; rfl
    have hb : countBody m n 2 = digB m ++ (44 :: digB n) := by unfold countBody; rw [hi, hin, if_neg (by decide), if_pos rfl]
    rw [hb] at p1 p2 ⊢
    have hI := interval_two ere m n
    by_cases h : m ≤ 255 ∧ m ≤ n ∧ n ≤ 255
    · rw [if_pos h] at hI
      have hg : countGood m n 2 = true := by unfold countGood; rw [hh, decide_eq_true (show 0 ≤ (m : Int) by omega), decide_eq_true (show (m : Int) ≤ 255 by omega), decide_eq_true (show (m : Int) ≤ (n : Int) by omega), decide_eq_true (show (n : Int) ≤ 255 by omega)]; rfl
      rw [hg, if_pos rfl, hh]
      exact p2 _ _ _ hI rfl (by omega) (by omega)
    · rw [if_neg h] at hI
      have hg : countGood m n 2 = false := by
        cases hgg : countGood m n 2 with
        | false => rfl
        | true =>
          unfold countGood at hgg
          rw [hh] at hgg
          simp at hgg
          omega
      rw [hg, if_neg Bool.false_ne_true]
      exact p1 _ _ hI
  · have hb : countBody m n way = digB m := by unfold countBody; rw [hi, if_neg hw1, if_neg hw2, List.append_nil]
    have hh : countHi m n way = m := by unfold countHi; rw [if_neg hw1, if_neg hw2]
    rw [hb] at p1 p2 ⊢
    have hI := interval_one ere m
    by_cases h : m ≤ 255
    · rw [if_pos h] at hI
      have hg : countGood m n way = true := by unfold countGood; rw [hh, decide_eq_true (show 0 ≤ (m : Int) by omega), decide_eq_true (show (m : Int) ≤ 255 by omega), decide_eq_true (show (m : Int) ≤ (m : Int) by omega), Bool.and_self, Bool.or_true, Bool.and_self]
      rw [hg, if_pos rfl, hh]
      exact p2 _ _ _ hI rfl (by omega) (by omega)
    · rw [if_neg h] at hI
      have hg : countGood m n way = false := by unfold countGood; rw [decide_eq_false (show ¬ (m : Int) ≤ 255 by omega), Bool.and_false]; rfl
      rw [hg, if_neg Bool.false_ne_true]
      exact p1 _ _ hI
end Go.Proofs.YtbdjcmhfcdamiaaDoor

/- Plain functions on trees: what package spell writes. No program in sight. No condition. -/
namespace Go.Proofs.YtbdjcmhfcdamiaaDoor

/-- The bytes that stand for themselves behind a backslash alone. -/
def spB (ere : Bool) : List Nat := [46, 91, 42, 94, 36, 92] ++ (if ere then [40, 41, 43, 63, 123, 124] else [])
/-- A set of one byte. -/
def byteB (ere : Bool) (b : Nat) : List Nat := if b = 10 then [92, 110] else if (spB ere).contains b then [92, b] else [b]
/-- A set. -/
def setB (ere : Bool) (c : Cls) : List Nat := if c.els.length = 256 then [46] else match c.els with
  | [b] => byteB ere b
  | _ => brackB c
/-- A duplication. -/
def dupB (ere : Bool) (n : Nd) : List Nat :=
  if n.min = 0 ∧ n.max < 0 then [42]
  else if ere = true ∧ n.min = 1 ∧ n.max < 0 then [43]
  else if ere = true ∧ n.min = 0 ∧ n.max = 1 then [63]
  else signB ere 123 ++ (itoB n.min ++ ((if n.max = n.min then [] else 44 :: (if 0 ≤ n.max then itoB n.max else [])) ++ signB ere 125))
/-- What is written of a node as an atom, and the place behind it; 'wh': what is written of what is in a group. -/
def atomP (ere : Bool) (re : List Nd) (wh : Nat → Option (List Nat × Nat)) (i : Nat) : Option (List Nat × Nat) :=
  match re[i]? with
  | none => none
  | some n =>
    if n.op = 1 then some (setB ere n.set, i + 1)
    else if n.op = 7 then
      match re[i + 1]? with
      | none => none
      | some k =>
        if k.op = 4 ∧ k.kids = 0 then some (signB ere 40 ++ signB ere 41, i + 2)
        else match wh (i + 1) with
          | none => none
          | some (s, j) => some (signB ere 40 ++ (s ++ signB ere 41), j)
    else if n.op = 8 then if ere = true ∨ 9 < n.n then none else some (92 :: itoB n.n, i + 1)
    else none
/-- A part of a row. -/
def partP (ere : Bool) (re : List Nd) (wh : Nat → Option (List Nat × Nat)) (first last : Bool) (i : Nat) : Option (List Nat × Nat) :=
  match re[i]? with
  | none => none
  | some n =>
    if n.op = 2 then if ere || first then some ([94], i + 1) else none
    else if n.op = 3 then if ere || last then some ([36], i + 1) else none
    else if n.op = 6 then
      match atomP ere re wh (i + 1) with
      | none => none
      | some (s, j) => some (s ++ dupB ere n, j)
    else atomP ere re wh i
/-- So many parts more. -/
def partsP (ere : Bool) (re : List Nd) (wh : Nat → Option (List Nat × Nat)) : Nat → Bool → Nat → Option (List Nat × Nat)
  | 0, _, i => some ([], i)
  | k + 1, first, i =>
    match partP ere re wh first (k == 0) i with
    | none => none
    | some (s, j) =>
      match partsP ere re wh k false j with
      | none => none
      | some (t, e) => some (s ++ t, e)
def rowP (ere : Bool) (re : List Nd) (wh : Nat → Option (List Nat × Nat)) (i : Nat) : Option (List Nat × Nat) :=
  match re[i]? with
  | none => none
  | some n => if n.op ≠ 4 then partP ere re wh true true i else if n.kids ≤ 0 then none else partsP ere re wh n.kids.toNat true (i + 1)
/-- So many rows more. -/
def rowsP (ere : Bool) (re : List Nd) (wh : Nat → Option (List Nat × Nat)) : Nat → Bool → Nat → Option (List Nat × Nat)
  | 0, _, i => some ([], i)
  | k + 1, first, i =>
    match rowP ere re wh i with
    | none => none
    | some (s, j) =>
      match rowsP ere re wh k false j with
      | none => none
      | some (t, e) => some ((if first then [] else [124]) ++ (s ++ t), e)
/-- The whole, or what is in a group; so many groups may stand in one another. -/
def wholeP (ere : Bool) (re : List Nd) : Nat → Nat → Option (List Nat × Nat)
  | 0, _ => none
  | f + 1, i =>
    match re[i]? with
    | none => none
    | some n => if n.op ≠ 5 then rowP ere re (wholeP ere re f) i else if ere then rowsP ere re (wholeP ere re f) n.kids.toNat true (i + 1) else none
/-- What Print answers: the bytes; none: there is no spelling. -/
def spellN (ere : Bool) (re : List Nd) : Option (List Nat) :=
  match wholeP ere re 66 0 with
  | none => none
  | some (s, _) => if s.length ≤ 4096 then some s else none
/-- What Text writes, from a state: does a backslash take the mark at hand with it? -/
def textT (d : Nat) : Bool → List Mk → Option (List Nat)
  | taken, [] => if taken then none else some []
  | true, m :: l => if m.p || m.b == d then none else (textT d false l).map fun s => m.b :: s
  | false, m :: l =>
    if m.p then (if m.b = d then (textT d false l).map fun s => 92 :: d :: s else none)
    else if m.b = d ∨ m.b = 10 then none
    else (textT d (m.b == 92) l).map fun s => m.b :: s
def textL (d : Nat) (l : List Mk) : Option (List Nat) := if d = 92 ∨ d = 10 then none else textT d false l
theorem textT_length (d : Nat) : ∀ (l : List Mk) (t : Bool) (s : List Nat), textT d t l = some s → s.length ≤ 2 * l.length
  | [], t, s, h => by
    unfold textT at h
    split at h <;> simp at h
    subst h; simp
  | m :: l, true, s, h => by
    unfold textT at h
    split at h
    · cases h
    · obtain ⟨s', h', rfl⟩ := Option.map_eq_some_iff.1 h
      have := textT_length d l _ _ h'
      simp only [List.length_cons]; omega
  | m :: l, false, s, h => by
    unfold textT at h
    split at h
    · split at h
      · obtain ⟨s', h', rfl⟩ := Option.map_eq_some_iff.1 h
        have := textT_length d l _ _ h'
        simp only [List.length_cons]; omega
      · cases h
    · split at h
      · cases h
      · obtain ⟨s', h', rfl⟩ := Option.map_eq_some_iff.1 h
        have := textT_length d l _ _ h'
        simp only [List.length_cons]; omega
end Go.Proofs.YtbdjcmhfcdamiaaDoor

/- Plain laws of printed brackets: how many runs a class has; what is printed of a class is read as the class. No program in sight. No condition. -/
namespace Go.Proofs.YtbdjcmhfcdamiaaDoor

/-! ### Runs -/
def inRuns (l : List (Nat × Nat)) (x : Nat) : Prop := ∃ r, r ∈ l ∧ r.1 ≤ x ∧ x ≤ r.2
/-- At how many places below n a run begins. -/
def starts (p : Nat → Bool) : Nat → Nat
  | 0 => 0
  | n + 1 => starts p n + (p n && (n == 0 || !p (n - 1))).toNat
theorem starts_congr {p q : Nat → Bool} : ∀ (n : Nat), (∀ i, i < n → p i = q i) → starts p n = starts q n
  | 0, _ => rfl
  | n + 1, h => by
    rw [starts, starts, starts_congr n (fun i hi => h i (by omega)), h n (by omega)]
    cases n with
    | zero => cases q 0 <;> rfl
    | succ n => rw [show n + 1 - 1 = n from rfl, h n (by omega)]
theorem starts_or (p q : Nat → Bool) : ∀ (n : Nat), starts (fun i => p i || q i) n ≤ starts p n + starts q n
  | 0 => Nat.zero_le _
  | n + 1 => by
    have ih := starts_or p q n
    simp only [starts]
    have hb : ∀ a b c d e : Bool, ((a || b) && (e || !(c || d))).toNat ≤ (a && (e || !c)).toNat + (b && (e || !d)).toNat := by decide
    have := hb (p n) (q n) (p (n - 1)) (q (n - 1)) (n == 0)
    omega
theorem starts_not (p : Nat → Bool) : ∀ (n : Nat), starts (fun i => !p i) (n + 1) + (p 0).toNat + (p n).toNat = starts p (n + 1) + 1
  | 0 => by
    simp only [starts]
    cases p 0 <;> rfl
  | n + 1 => by
    have ih := starts_not p n
    rw [starts, starts.eq_2 p]
    rw [show n + 1 - 1 = n from rfl, show (n + 1 == 0) = false from rfl]
    have hb : ∀ a b : Bool, (!a && (false || !!b)).toNat + a.toNat = (a && (false || !b)).toNat + b.toNat := by decide
    have := hb (p (n + 1)) (p n)
    omega
theorem starts_not_le (p : Nat → Bool) : starts (fun i => !p i) 256 ≤ starts p 256 + 1 := by
  have : starts (fun i => !p i) 256 + (p 0).toNat + (p 255).toNat = starts p 256 + 1 := starts_not p 255
  omega
theorem starts_range (lo hi : Nat) : ∀ (n : Nat), starts (fun i => decide (lo ≤ i) && decide (i ≤ hi)) n ≤ (decide (lo < n)).toNat
  | 0 => Nat.zero_le _
  | n + 1 => by
    have ih := starts_range lo hi n
    rw [starts]
    by_cases h1 : lo < n
    · rw [decide_eq_true h1] at ih
      rw [decide_eq_true (show lo < n + 1 by omega)]
      have hz : ((decide (lo ≤ n) && decide (n ≤ hi)) && (n == 0 || !(decide (lo ≤ n - 1) && decide (n - 1 ≤ hi)))) = false := by
        rw [show (n == 0) = false by simp; omega, decide_eq_true (show lo ≤ n - 1 by omega), decide_eq_true (show lo ≤ n by omega)]
        by_cases h2 : n ≤ hi
        · rw [decide_eq_true h2, decide_eq_true (show n - 1 ≤ hi by omega)]; rfl
        · rw [decide_eq_false h2]; rfl
      rw [hz]
      exact ih
    · rw [decide_eq_false h1] at ih
      by_cases h2 : lo ≤ n
      · rw [decide_eq_true (show lo < n + 1 by omega)]
        have := Bool.toNat_le ((decide (lo ≤ n) && decide (n ≤ hi)) && (n == 0 || !(decide (lo ≤ n - 1) && decide (n - 1 ≤ hi))))
        have h3 : false.toNat = 0 := rfl
        have h4 : true.toNat = 1 := rfl
        omega
      · rw [decide_eq_false h2, Bool.false_and, Bool.false_and]
        have h3 : false.toNat = 0 := rfl
        omega
/-- The runs of the bytes below n. -/
structure RunsOk (l : List (Nat × Nat)) (p : Nat → Bool) (n : Nat) : Prop where
  le : ∀ r ∈ l, r.1 ≤ r.2 ∧ r.2 < n ∧ p r.1 = true ∧ p r.2 = true
  cover : ∀ x, inRuns l x ↔ (x < n ∧ p x = true)
  last : ∀ ys r, l = ys ++ [r] → (r.2 + 1 = n ↔ p (n - 1) = true)
  len : l.length = starts p n
theorem runsOk (p : Nat → Bool) : ∀ n, RunsOk (runsOf ((List.range n).filter p)) p n
  | 0 => ⟨by simp [runsOf], fun x => by simp [runsOf, inRuns], fun ys r h => by simp [runsOf] at h, rfl⟩
  | n + 1 => by
    have ih := runsOk p n
    rw [List.range_succ, List.filter_append]
    generalize hG : (List.range n).filter p = G at ih ⊢
    cases hp : p n with
    | false =>
      have : [n].filter p = [] := by simp [hp]
      rw [this, List.append_nil]
      refine ⟨fun r hr => ?_, fun x => ?_, fun ys r h => ?_, ?_⟩
      · have := ih.le r hr
        exact ⟨this.1, by omega, this.2.2⟩
      · rw [ih.cover]
        constructor
        · rintro ⟨h1, h2⟩; exact ⟨by omega, h2⟩
        · rintro ⟨h1, h2⟩
          refine ⟨?_, h2⟩
          by_cases hx : x = n
          · subst hx; rw [hp] at h2; cases h2
          · omega
      · have h1 := ih.le r (by rw [h]; simp)
        rw [Nat.add_sub_cancel, hp]
        constructor
        · intro h2; omega
        · intro h2; cases h2
      · rw [ih.len, starts, hp]; rfl
    | true =>
      have : [n].filter p = [n] := by simp [hp]
      rw [this]
      have hr : runsOf (G ++ [n]) = runAdd (runsOf G) n := by rw [runsOf, List.foldl_append]; rfl
      rw [hr]
      generalize runsOf G = l at ih ⊢
      unfold runAdd
      split
      · rename_i hl
        have hl' : l = [] := List.getLast?_eq_none_iff.1 hl
        subst hl'
        have hno : ∀ x, x < n → p x = false := fun x hx => by
          cases h : p x with
          | false => rfl
          | true =>
            obtain ⟨r, hr, _⟩ := (ih.cover x).2 ⟨hx, h⟩
            simp at hr
        refine ⟨fun r hr => ?_, fun x => ?_, fun ys r h => ?_, ?_⟩
        · simp only [List.mem_singleton] at hr
          subst hr
          exact ⟨Nat.le_refl _, Nat.lt_succ_self _, hp, hp⟩
        · constructor
          · rintro ⟨r, hr, h1, h2⟩
            simp only [List.mem_singleton] at hr
            subst hr
            have : x = n := Nat.le_antisymm h2 h1
            subst this
            exact ⟨Nat.lt_succ_self _, hp⟩
          · rintro ⟨h1, h2⟩
            refine ⟨(n, n), by simp, ?_⟩
            by_cases hx : x = n
            · subst hx; exact ⟨Nat.le_refl _, Nat.le_refl _⟩
            · rw [hno x (by omega)] at h2; cases h2
        · have h1 : ys = [] ∧ r = (n, n) := by
            cases ys with
            | nil => simp at h; exact ⟨rfl, h.symm⟩
            | cons y ys => simp at h
          rw [h1.2, Nat.add_sub_cancel]
          simp [hp]
        · have h0 := ih.len
          simp only [List.length_nil] at h0
          rw [starts, ← h0, hp]
          have : (n == 0 || !p (n - 1)) = true := by
            cases n with
            | zero => rfl
            | succ n => rw [show n + 1 - 1 = n from rfl, hno n (Nat.lt_succ_self _)]; rfl
          rw [this]
          rfl
      · rename_i r0 hl
        obtain ⟨ys, rfl⟩ := List.getLast?_eq_some_iff.1 hl
        have hla := ih.last ys r0 rfl
        have hle := ih.le r0 (by simp)
        split
        · rename_i he
          rw [List.dropLast_concat]
          have hpn := hla.1 he
          refine ⟨fun r hr => ?_, fun x => ?_, fun zs r h => ?_, ?_⟩
          · rcases List.mem_append.1 hr with h | h
            · have := ih.le r (List.mem_append_left _ h)
              exact ⟨this.1, by omega, this.2.2⟩
            · simp only [List.mem_singleton] at h
              subst h
              exact ⟨by show r0.1 ≤ n; omega, Nat.lt_succ_self _, hle.2.2.1, hp⟩
          · constructor
            · rintro ⟨r, hr, h1, h2⟩
              rcases List.mem_append.1 hr with h | h
              · have := (ih.cover x).1 ⟨r, List.mem_append_left _ h, h1, h2⟩
                exact ⟨by omega, this.2⟩
              · simp only [List.mem_singleton] at h
                subst h
                simp only at h1 h2
                by_cases hx : x = n
                · subst hx; exact ⟨Nat.lt_succ_self _, hp⟩
                · have := (ih.cover x).1 ⟨r0, by simp, h1, by omega⟩
                  exact ⟨by omega, this.2⟩
            · rintro ⟨h1, h2⟩
              by_cases hx : x = n
              · subst hx
                exact ⟨(r0.1, x), by simp, by show r0.1 ≤ x; omega, Nat.le_refl _⟩
              · obtain ⟨r, hr, h3, h4⟩ := (ih.cover x).2 ⟨by omega, h2⟩
                rcases List.mem_append.1 hr with h | h
                · exact ⟨r, List.mem_append_left _ h, h3, h4⟩
                · simp only [List.mem_singleton] at h
                  subst h
                  exact ⟨(r.1, n), by simp, h3, by show x ≤ n; omega⟩
          · have h1 : r = (r0.1, n) := by
              have := congrArg List.getLast? h
              simpa using this.symm
            rw [h1, Nat.add_sub_cancel]
            simp [hp]
          · rw [starts, ← ih.len, hp, hpn]
            have : (n == 0) = false := by
              have := hle.2.1
              simp; omega
            rw [this]
            simp
        · rename_i he
          have hpn : p (n - 1) = false := by
            cases h : p (n - 1) with
            | false => rfl
            | true => exact absurd (hla.2 h) he
          refine ⟨fun r hr => ?_, fun x => ?_, fun zs r h => ?_, ?_⟩
          · rcases List.mem_append.1 hr with h | h
            · have := ih.le r h
              exact ⟨this.1, by omega, this.2.2⟩
            · simp only [List.mem_singleton] at h
              subst h
              exact ⟨Nat.le_refl _, Nat.lt_succ_self _, hp, hp⟩
          · constructor
            · rintro ⟨r, hr, h1, h2⟩
              rcases List.mem_append.1 hr with h | h
              · have := (ih.cover x).1 ⟨r, h, h1, h2⟩
                exact ⟨by omega, this.2⟩
              · simp only [List.mem_singleton] at h
                subst h
                have : x = n := Nat.le_antisymm h2 h1
                subst this
                exact ⟨Nat.lt_succ_self _, hp⟩
            · rintro ⟨h1, h2⟩
              by_cases hx : x = n
              · subst hx
                exact ⟨(x, x), by simp, Nat.le_refl _, Nat.le_refl _⟩
              · obtain ⟨r, hr, h3⟩ := (ih.cover x).2 ⟨by omega, h2⟩
                exact ⟨r, List.mem_append_left _ hr, h3⟩
          · have h1 : r = (n, n) := by
              have := congrArg List.getLast? h
              simpa using this.symm
            rw [h1, Nat.add_sub_cancel]
            simp [hp]
          · rw [starts, List.length_append, ih.len, hp, hpn]
            simp
/-- How many runs a class has. -/
def Cls.starts (c : Cls) : Nat := Go.Proofs.YtbdjcmhfcdamiaaDoor.starts c.has 256
theorem Cls.runsOk (c : Cls) : RunsOk c.runs c.has 256 := Go.Proofs.YtbdjcmhfcdamiaaDoor.runsOk c.has 256
theorem runs_starts (c : Cls) : c.runs.length = c.starts := c.runsOk.len
theorem starts_orC (a b : Cls) : (a.or b).starts ≤ a.starts + b.starts := by
  unfold Cls.starts
  rw [starts_congr 256 (fun i _ => has_or a b i)]
  exact starts_or a.has b.has 256
theorem starts_notC (a : Cls) : a.not.starts ≤ a.starts + 1 := by
  unfold Cls.starts
  rw [starts_congr 256 (fun i _ => has_not a i)]
  exact starts_not_le a.has
theorem starts_rangeC {lo hi : Nat} (hh : hi < 256) : (Cls.range lo hi).starts ≤ 1 := by
  unfold Cls.starts
  rw [starts_congr 256 (fun i hi' => has_range hh hi')]
  have := starts_range lo hi 256
  have := Bool.toNat_le (decide (lo < 256))
  omega
theorem of_one {b : Nat} (hb : b < 256) : Cls.of [b] = Cls.range b b := Cls.ext' fun i hi => by
  rw [has_of (by simpa using hb) hi, has_range hb hi, ← Bool.decide_and, decide_eq_decide]
  simp only [List.mem_singleton]
  omega
theorem starts_ofC {b : Nat} (hb : b < 256) : (Cls.of [b]).starts ≤ 1 := by
  rw [of_one hb]; exact starts_rangeC hb
theorem starts_zero : Cls.zero.starts = 0 := by decide +kernel
theorem starts_named {s : List Nat} {c : Cls} (h : namedL s = some c) : c.starts ≤ 4 := by
  have step : ∀ {p : Prop} [Decidable p] {a c : Cls} {r : Option Cls}, (if p then some a else r) = some c → a = c ∨ r = some c := by
    intro p _ a c r h
    split at h
    · exact .inl (Option.some.inj h)
    · exact .inr h
  unfold namedL at h
  iterate 12
    rcases step h with rfl | h
    · decide +kernel
  cases h
/-! ### What is printed is read -/
section
variable {L : List Mk} {i : Nat}
theorem mark_drop {m : Mk} {r : List Mk} (h : L.drop i = m :: r) : markAt L i = m ∧ i < L.length ∧ L.drop (i + 1) = r := by
  have hi : i < L.length := by
    by_cases hi : i < L.length
    · exact hi
    · rw [List.drop_eq_nil_of_le (by omega)] at h; cases h
  rw [List.drop_eq_getElem_cons hi] at h
  simp only [List.cons.injEq] at h
  refine ⟨?_, hi, h.2⟩
  rw [markAt, List.getD_eq_getElem?_getD, List.getElem?_eq_getElem hi, Option.getD_some, h.1]
theorem sign_drop {m : Mk} {r : List Mk} (h : L.drop i = m :: r) (c : Nat) : signAt L i c = (m.b == c && !m.p) := by
  obtain ⟨h1, h2, _⟩ := mark_drop h
  rw [signAt, h1, decide_eq_true h2, Bool.true_and]
theorem sign_mk {b : Nat} {r : List Mk} (h : L.drop i = mk b :: r) (c : Nat) : signAt L i c = (b == c) := by
  rw [sign_drop h]
  show (b == c && !false) = _
  rw [Bool.not_false, Bool.and_true]
theorem len_drop {l : List Mk} (h : L.drop i = l) : L.length - i = l.length := by rw [← h, List.length_drop]
def escB (b : Nat) : Prop := b = 91 ∨ b = 93 ∨ b = 45 ∨ b = 94
instance (b : Nat) : Decidable (escB b) := by unfold escB; infer_instance
theorem endB_esc {b : Nat} (h : escB b) : endB b = [91, 46, b, 46, 93] := if_pos h
theorem endB_raw {b : Nat} (h : ¬ escB b) : endB b = [b] := if_neg h
theorem thing_end {at0 b : Nat} {rest : List Mk} (h : L.drop i = (endB b).map mk ++ rest) : thingTh L at0 i = (⟨Cls.of [b], b, true, i + (endB b).length⟩, none) := by
  by_cases hb : escB b
  · rw [endB_esc hb] at h ⊢
    simp only [List.map_cons, List.map_nil, List.cons_append, List.nil_append] at h
    obtain ⟨m0, l0, d1⟩ := mark_drop h
    obtain ⟨m1, l1, d2⟩ := mark_drop d1
    obtain ⟨m2, l2, d3⟩ := mark_drop d2
    obtain ⟨m3, l3, d4⟩ := mark_drop d3
    obtain ⟨m4, l4, d5⟩ := mark_drop d4
    have s0 : signAt L i 91 = true := sign_mk h 91
    have s3 : signAt L (i + 3) 46 = true := sign_mk d3 46
    have s4 : signAt L (i + 4) 93 = true := sign_mk d4 93
    unfold thingTh
    rw [if_neg (by omega), m1, s0, decide_eq_true l1]
    rw [if_neg (by decide), if_pos (by decide)]
    unfold enclosedTh
    rw [show (mk 46).b = 46 from rfl]
    rw [if_neg (by omega), s3, if_neg (by decide), if_neg (by omega), s4, if_neg (by decide), show i + 2 = i + 1 + 1 from rfl, m2]
    rfl
  · rw [endB_raw hb] at h ⊢
    simp only [List.map_cons, List.map_nil, List.cons_append, List.nil_append] at h
    obtain ⟨m0, l0, d1⟩ := mark_drop h
    have s0 : signAt L i 91 = false := by
      rw [sign_mk h]
      exact beq_eq_false_iff_ne.2 (fun e => hb (.inl e))
    unfold thingTh
    rw [if_neg (by omega), s0]
    simp only [Bool.false_and, Bool.false_eq_true, if_false, m0]
    rfl
def runC (r : Nat × Nat) : Cls := if r.2 = r.1 then Cls.of [r.1] else Cls.range r.1 r.2
theorem endB_head (b : Nat) : ∃ x l, endB b = x :: l ∧ x ≠ 45 ∧ x ≠ 93 ∧ x ≠ 94 := by
  by_cases hb : escB b
  · exact ⟨91, _, endB_esc hb, by decide, by decide, by decide⟩
  · refine ⟨b, [], endB_raw hb, ?_⟩
    unfold escB at hb
    omega
theorem runB_head (r : Nat × Nat) : ∃ x l, runB r = x :: l ∧ x ≠ 45 ∧ x ≠ 93 ∧ x ≠ 94 := by
  obtain ⟨x, l, h1, h2⟩ := endB_head r.1
  exact ⟨x, l ++ (if r.2 = r.1 then [] else 45 :: endB r.2), by rw [runB, h1]; rfl, h2⟩
theorem item_run {at0 : Nat} {r : Nat × Nat} {x : Nat} {rest : List Mk} {first : Bool} (hr : r.1 ≤ r.2) (hx : x ≠ 45) (h : L.drop i = (runB r).map mk ++ mk x :: rest) :
    ∃ t, itemTh L at0 i first = (t, none) ∧ t.next = i + (runB r).length ∧ t.set = runC r := by
  obtain ⟨lo, hi⟩ := r
  simp only at hr
  obtain ⟨y, l, hy, hy1, hy2, hy3⟩ := endB_head lo
  have hsgn : signAt L i 45 = false := by
    rw [runB, hy] at h
    simp only [List.cons_append, List.map_cons] at h
    rw [sign_mk h]
    exact beq_eq_false_iff_ne.2 hy1
  rw [runB, List.map_append, List.append_assoc] at h
  have h1 := thing_end (at0 := at0) h
  have hd : L.drop (i + (endB lo).length) = ((if hi = lo then [] else 45 :: endB hi) : List Nat).map mk ++ mk x :: rest := by
    rw [← List.drop_drop, h, List.drop_left' (by simp)]
  unfold itemTh
  rw [h1]
  simp only [hsgn, Bool.false_and, Bool.false_eq_true, if_false]
  by_cases he : hi = lo
  · rw [if_pos he] at hd
    simp only [List.map_nil, List.nil_append] at hd
    have hs : signAt L (i + (endB lo).length) 45 = false := by
      rw [sign_mk hd]
      exact beq_eq_false_iff_ne.2 hx
    rw [hs]
    simp only [Bool.not_false, Bool.true_or, if_true]
    refine ⟨_, rfl, ?_, ?_⟩
    · rw [runB]; simp [he]
    · rw [runC, if_pos (by exact he)]
  · rw [if_neg he] at hd
    simp only [List.map_cons, List.cons_append] at hd
    obtain ⟨_, l0, d1⟩ := mark_drop hd
    have hs : signAt L (i + (endB lo).length) 45 = true := by rw [sign_mk hd]; rfl
    obtain ⟨z, l', hz, hz1, hz2, hz3⟩ := endB_head hi
    have hs2 : signAt L (i + (endB lo).length + 1) 93 = false := by
      rw [hz] at d1
      simp only [List.map_cons, List.cons_append] at d1
      rw [sign_mk d1]
      exact beq_eq_false_iff_ne.2 hz2
    have hlt : i + (endB lo).length + 1 < L.length := by
      rw [hz] at d1
      simp only [List.map_cons, List.cons_append] at d1
      exact (mark_drop d1).2.1
    have h2 := thing_end (at0 := at0) d1
    rw [hs, hs2, decide_eq_false (by omega), h2]
    simp only [Bool.not_true, Bool.or_self, Bool.false_eq_true, if_false, Bool.false_or, decide_eq_true_eq]
    rw [if_neg (by omega)]
    refine ⟨_, rfl, ?_, ?_⟩
    · rw [runB]; simp [he]; omega
    · rw [runC, if_neg (by exact he)]
theorem items_runs {at0 : Nat} {rest : List Mk} : ∀ (l : List (Nat × Nat)) (f : Nat) (c : Cls) (i : Nat) (first : Bool), (∀ r ∈ l, r.1 ≤ r.2) → l.length < f → (first = true → l ≠ []) → L.drop i = (l.flatMap runB).map mk ++ mk 93 :: rest →
    itemsL L at0 f c i first = .ok (l.foldl (fun c r => c.or (runC r)) c, i + (l.flatMap runB).length)
  | [], f, c, i, first, _, hf, hn, h => by
    obtain ⟨f, rfl⟩ : ∃ k, f = k + 1 := ⟨f - 1, by simp at hf; omega⟩
    have hfi : first = false := by cases first with | false => rfl | true => exact absurd rfl (hn rfl)
    simp only [List.flatMap_nil, List.map_nil, List.nil_append] at h
    rw [itemsL, hfi, sign_mk h, if_pos (by decide)]
    rfl
  | r :: l, f, c, i, first, hr, hf, hn, h => by
    obtain ⟨f, rfl⟩ : ∃ k, f = k + 1 := ⟨f - 1, by simp at hf; omega⟩
    rw [List.flatMap_cons, List.map_append, List.append_assoc] at h
    have hno : signAt L i 93 = false := by
      obtain ⟨x, l2, hx, _, hx2, _⟩ := runB_head r
      rw [hx] at h
      simp only [List.map_cons, List.cons_append] at h
      rw [sign_mk h]
      exact beq_eq_false_iff_ne.2 hx2
    obtain ⟨x, rest2, hx, hx1⟩ : ∃ x rest2, (l.flatMap runB).map mk ++ mk 93 :: rest = mk x :: rest2 ∧ x ≠ 45 := by
      cases l with
      | nil => exact ⟨93, rest, rfl, by decide⟩
      | cons r2 l =>
        obtain ⟨x, l2, hx, hx1, _⟩ := runB_head r2
        exact ⟨x, l2.map mk ++ ((l.flatMap runB).map mk ++ mk 93 :: rest), by rw [List.flatMap_cons, hx]; simp, hx1⟩
    have h' := h
    rw [hx] at h'
    obtain ⟨t, h1, h2, h3⟩ := item_run (at0 := at0) (first := first) (hr r (List.mem_cons_self ..)) hx1 h'
    have hd : L.drop (i + (runB r).length) = (l.flatMap runB).map mk ++ mk 93 :: rest := by
      rw [← List.drop_drop, h, List.drop_left' (by simp)]
    rw [itemsL, hno, Bool.and_false, if_neg (by decide), h1]
    simp only
    rw [h2, h3, items_runs l f _ _ false (fun r h => hr r (List.mem_cons_of_mem _ h)) (by simp at hf; omega) (by simp) hd]
    simp only [List.foldl_cons, List.flatMap_cons, List.length_append, Nat.add_assoc]
theorem runs_fold_has {x : Nat} (hx : x < 256) : ∀ (l : List (Nat × Nat)) (c : Cls), (∀ r ∈ l, r.1 ≤ r.2 ∧ r.2 < 256) → ((l.foldl (fun c r => c.or (runC r)) c).has x = true ↔ (c.has x = true ∨ inRuns l x))
  | [], c, _ => by simp [inRuns]
  | r :: l, c, h => by
    have hr := h r (List.mem_cons_self ..)
    rw [List.foldl_cons, runs_fold_has hx l _ (fun r h' => h r (List.mem_cons_of_mem _ h')), has_or, Bool.or_eq_true]
    have hc : (runC r).has x = true ↔ r.1 ≤ x ∧ x ≤ r.2 := by
      unfold runC
      split
      · rename_i he
        rw [of_one (by omega), has_range (by omega) hx, Bool.and_eq_true, decide_eq_true_eq, decide_eq_true_eq]
        omega
      · rw [has_range hr.2 hx, Bool.and_eq_true, decide_eq_true_eq, decide_eq_true_eq]
    rw [hc]
    constructor
    · rintro ((h1 | h1) | ⟨q, hq, h1⟩)
      · exact .inl h1
      · exact .inr ⟨r, List.mem_cons_self .., h1⟩
      · exact .inr ⟨q, List.mem_cons_of_mem _ hq, h1⟩
    · rintro (h1 | ⟨q, hq, h1⟩)
      · exact .inl (.inl h1)
      · rcases List.mem_cons.1 hq with rfl | hq
        · exact .inl (.inr h1)
        · exact .inr ⟨q, hq, h1⟩
theorem runs_fold (c : Cls) : c.runs.foldl (fun c r => c.or (runC r)) Cls.zero = c := Cls.ext' fun i hi => by
  have h := runs_fold_has hi c.runs Cls.zero (fun r hr => ⟨(c.runsOk.le r hr).1, (c.runsOk.le r hr).2.1⟩)
  rw [has_zero, c.runsOk.cover] at h
  simp only [Bool.false_eq_true, false_or, hi, true_and] at h
  cases h1 : (c.runs.foldl (fun c r => c.or (runC r)) Cls.zero).has i <;> cases h2 : c.has i <;> simp_all
theorem runs_nil {c : Cls} (h : c.runs = []) : c = Cls.zero := by
  rw [← runs_fold c, h]; rfl
theorem allC_has {i : Nat} (hi : i < 256) : allC.has i = true := by
  rw [allC, has_range (by decide) hi, Bool.and_eq_true, decide_eq_true_eq, decide_eq_true_eq]
  omega
theorem not_zero : Cls.zero.not = allC := Cls.ext' fun i hi => by rw [has_not, has_zero, allC_has hi]; rfl
theorem not_not (c : Cls) : c.not.not = c := Cls.ext' fun i _ => by rw [has_not, has_not, Bool.not_not]
/-- The class whose runs are written. -/
def Cls.side (c : Cls) : Cls := if c.neg then c.not else c
theorem side_ne (c : Cls) : c.side ≠ Cls.zero := by
  unfold Cls.side
  split
  · rename_i h
    intro e
    have : c = allC := by rw [← not_zero, ← e, not_not]
    unfold Cls.neg at h
    simp [this] at h
  · rename_i h
    intro e
    subst e
    apply h
    unfold Cls.neg
    rw [decide_eq_true (show Cls.zero = Cls.zero from rfl), Bool.or_true, Bool.and_true]
    decide +kernel
theorem brackB_side (c : Cls) : brackB c = 91 :: ((if c.neg then [94] else []) ++ (c.side.runs.flatMap runB ++ [93])) := by
  unfold brackB Cls.side
  rw [List.singleton_append]
/-- What is printed of a class is read as it. -/
theorem bracketL_brackB {c : Cls} {rest : List Mk} (h : L.drop i = (brackB c).map mk ++ rest) : bracketL L i = .ok (c, i + (brackB c).length) := by
  have hs := side_ne c
  have hle : ∀ r ∈ c.side.runs, r.1 ≤ r.2 := fun r hr => (c.side.runsOk.le r hr).1
  have hne : c.side.runs ≠ [] := fun e => hs (runs_nil e)
  have hfold := runs_fold c.side
  have hlen := len_drop h
  rw [brackB_side] at h hlen ⊢
  obtain ⟨x, l2, hx, hx1⟩ : ∃ x l2, c.side.runs.flatMap runB = x :: l2 ∧ x ≠ 94 := by
    cases hr : c.side.runs with
    | nil => exact absurd hr hne
    | cons r l =>
      obtain ⟨x, l2, hx, _, _, hx3⟩ := runB_head r
      exact ⟨x, l2 ++ l.flatMap runB, by rw [List.flatMap_cons, hx]; rfl, hx3⟩
  have hlr : c.side.runs.length ≤ (c.side.runs.flatMap runB).length := by
    generalize c.side.runs = l
    induction l with
    | nil => simp
    | cons r l ih =>
      obtain ⟨x, l2, hx, _⟩ := runB_head r
      rw [List.flatMap_cons, hx]
      simp only [List.length_append, List.length_cons]
      omega
  have hf : c.side.runs.length < L.length + 2 := by
    simp only [List.length_append, List.length_map, List.length_cons] at hlen
    omega
  simp only [List.map_cons, List.cons_append, List.map_append, List.append_assoc] at h
  obtain ⟨_, _, d1⟩ := mark_drop h
  unfold bracketL
  cases hn : c.neg with
  | true =>
    rw [hn] at d1
    simp only [if_true, List.map_cons, List.map_nil, List.cons_append, List.nil_append] at d1
    obtain ⟨_, _, d2⟩ := mark_drop d1
    have h1 : signAt L (i + 1) 94 = true := sign_mk d1 94
    simp only [h1, if_true]
    rw [items_runs c.side.runs _ _ _ _ hle hf (fun _ => hne) d2, hfold]
    simp only
    rw [show c.side.not = c by rw [Cls.side, hn, if_pos rfl, not_not]]
    refine congrArg (fun n => (Except.ok (c, n) : Except (Nat × Nat) (Cls × Nat))) ?_
    simp only [List.length_append, List.length_cons, List.length_nil]
    omega
  | false =>
    rw [hn] at d1
    simp only [Bool.false_eq_true, if_false, List.map_nil, List.nil_append] at d1
    have h1 : signAt L (i + 1) 94 = false := by
      have d1' := d1
      rw [hx] at d1'
      simp only [List.map_cons, List.cons_append] at d1'
      rw [sign_mk d1']
      exact beq_eq_false_iff_ne.2 hx1
    simp only [h1, Bool.false_eq_true, if_false]
    rw [items_runs c.side.runs _ _ _ _ hle hf (fun _ => hne) d1, hfold]
    simp only
    rw [show c.side = c by rw [Cls.side, hn]; rfl]
    refine congrArg (fun n => (Except.ok (c, n) : Except (Nat × Nat) (Cls × Nat))) ?_
    simp only [List.length_append, List.length_cons, List.length_nil]
    omega
end
/-! ### Its length, and that no line end stands in it -/
theorem side_starts (c : Cls) : c.side.starts ≤ c.starts + 1 := by
  unfold Cls.side
  split
  · exact starts_notC c
  · omega
theorem brackB_len (c : Cls) : (brackB c).length ≤ 3 + 11 * c.side.starts := by
  have h1 := runsB_length c.side.runs
  rw [runs_starts] at h1
  rw [brackB_side]
  have h3 : (if c.neg then [94] else ([] : List Nat)).length ≤ 1 := by split <;> simp
  simp only [List.length_append, List.length_cons, List.length_nil]
  omega
theorem allC_runs : allC.runs = [(0, 255)] := by decide +kernel
theorem endB_ten {b : Nat} (hb : b ≠ 10) : 10 ∉ endB b := by
  unfold endB
  split
  · simp; omega
  · simp; omega
theorem runB_ten {r : Nat × Nat} (h1 : r.1 ≠ 10) (h2 : r.2 ≠ 10) : 10 ∉ runB r := by
  unfold runB
  intro h
  rcases List.mem_append.1 h with h | h
  · exact endB_ten h1 h
  · split at h
    · simp at h
    · rcases List.mem_cons.1 h with h | h
      · cases h
      · exact endB_ten h2 h
theorem side_ten (c : Cls) : c.side = allC ∨ c.side.has 10 = false := by
  unfold Cls.side
  split
  · rename_i h
    unfold Cls.neg at h
    simp only [Bool.and_eq_true, Bool.or_eq_true, decide_eq_true_eq] at h
    rcases h.2 with h2 | h2
    · exact .inr (by rw [has_not, h2]; rfl)
    · exact .inl (by rw [h2, not_zero])
  · rename_i h
    unfold Cls.neg at h
    by_cases ha : c = allC
    · exact .inl ha
    · refine .inr ?_
      rw [decide_eq_true ha, Bool.true_and] at h
      cases hh : c.has 10 with
      | false => rfl
      | true => rw [hh, Bool.true_or] at h; exact absurd rfl h
theorem brackB_ten (c : Cls) : 10 ∉ brackB c := by
  rw [brackB_side]
  intro h
  rcases List.mem_cons.1 h with h | h
  · cases h
  · rcases List.mem_append.1 h with h | h
    · split at h <;> simp at h
    · rcases List.mem_append.1 h with h | h
      · obtain ⟨r, hr, h⟩ := List.mem_flatMap.1 h
        rcases side_ten c with he | he
        · rw [he, allC_runs] at hr
          simp only [List.mem_singleton] at hr
          subst hr
          exact runB_ten (by decide) (by decide) h
        · have hl := c.side.runsOk.le r hr
          exact runB_ten (fun e => by rw [e, he] at hl; exact absurd hl.2.2.1 (by decide)) (fun e => by rw [e, he] at hl; exact absurd hl.2.2.2 (by decide)) h
      · simp at h
end Go.Proofs.YtbdjcmhfcdamiaaDoor

/- Plain laws: what is spelled of a tree is read as the tree: beginnings, ends, atoms, duplications. No program in sight. No condition. -/
namespace Go.Proofs.YtbdjcmhfcdamiaaDoor

/-! ### How a part begins, and how a row ends -/
def repL (ere : Bool) (r : List Mk) : Bool := seesL r [42] || ere && (seesL r [43] || seesL r [63]) || seesL r (signB ere 123)
theorem repeats_drop (ere : Bool) (L : List Mk) (i : Nat) : repeatsL ere L i = repL ere (L.drop i) := rfl
theorem seesL_nil' (r : List Mk) : seesL r [] = true := by cases r <;> rfl
theorem sees1 (m : Mk) (r : List Mk) (c : Nat) : seesL (m :: r) [c] = (!m.p && m.b == c) := by rw [seesL, seesL_nil', Bool.and_true]
theorem sees2 (m : Mk) (r : List Mk) (c d : Nat) : seesL (m :: r) [c, d] = (!m.p && m.b == c && seesL r [d]) := by rw [seesL]
theorem seesMk1 (b : Nat) (r : List Mk) (c : Nat) : seesL (mk b :: r) [c] = (b == c) := by rw [sees1]; show (!false && b == c) = _; rw [Bool.not_false, Bool.true_and]
theorem seesMk2 (b : Nat) (r : List Mk) (c d : Nat) : seesL (mk b :: r) [c, d] = (b == c && seesL r [d]) := by rw [sees2]; show (!false && b == c && _) = _; rw [Bool.not_false, Bool.true_and]
/-- A beginning that no row takes for its end, and that repeats nothing. -/
def Hs (ere : Bool) (s : List Nat) : Prop := ∃ x s', s = x :: s' ∧ x ≠ 42 ∧ (ere = true → x ≠ 43 ∧ x ≠ 63 ∧ x ≠ 123 ∧ x ≠ 124 ∧ x ≠ 41) ∧ (ere = false → x = 92 → ∃ y s'', s' = y :: s'' ∧ y ≠ 123 ∧ y ≠ 41)
theorem Hs.append {ere : Bool} {s : List Nat} (h : Hs ere s) (t : List Nat) : Hs ere (s ++ t) := by
  obtain ⟨x, s', rfl, h1, h2, h3⟩ := h
  refine ⟨x, s' ++ t, rfl, h1, h2, fun a b => ?_⟩
  obtain ⟨y, s'', rfl, h4⟩ := h3 a b
  exact ⟨y, s'' ++ t, rfl, h4⟩
theorem Hs.pos {ere : Bool} {s : List Nat} (h : Hs ere s) : 1 ≤ s.length := by
  obtain ⟨x, s', rfl, _⟩ := h
  simp
theorem Hs.safe {ere : Bool} {s : List Nat} (h : Hs ere s) (r : List Mk) : repL ere (s.map mk ++ r) = false ∧ (ere && seesL (s.map mk ++ r) [124]) = false ∧ seesL (s.map mk ++ r) (signB ere 41) = false := by
  obtain ⟨x, s', rfl, h1, h2, h3⟩ := h
  have e1 : (x == 42) = false := beq_eq_false_iff_ne.2 h1
  cases ere with
  | true =>
    obtain ⟨a, b, c, d, e⟩ := h2 rfl
    simp only [repL, signB, if_true, List.map_cons, List.cons_append, seesMk1, e1, beq_eq_false_iff_ne.2 a, beq_eq_false_iff_ne.2 b, beq_eq_false_iff_ne.2 c, beq_eq_false_iff_ne.2 d, beq_eq_false_iff_ne.2 e]
    decide
  | false =>
    have two : ∀ c, (c = 123 ∨ c = 41) → seesL (mk x :: (s'.map mk ++ r)) [92, c] = false := by
      intro c hc
      rw [seesMk2]
      by_cases hx : x = 92
      · obtain ⟨y, s'', rfl, h4, h5⟩ := h3 rfl hx
        simp only [List.map_cons, List.cons_append, seesMk1]
        have : (y == c) = false := beq_eq_false_iff_ne.2 (by omega)
        rw [this, Bool.and_false]
      · rw [beq_eq_false_iff_ne.2 hx, Bool.false_and]
    simp only [repL, signB, Bool.false_eq_true, if_false, List.map_cons, List.cons_append, seesMk1, e1, Bool.false_and, Bool.or_false, two 123 (.inl rfl), two 41 (.inr rfl)]
    decide
/-- Where a row ends. -/
def Fin' (ere top : Bool) (r : List Mk) : Prop := r = [] ∨ (ere && seesL r [124]) = true ∨ (seesL r (signB ere 41) = true ∧ top = false)
theorem sees1_head {r : List Mk} {c : Nat} (h : seesL r [c] = true) : ∃ r', r = mk c :: r' := by
  cases r with
  | nil => cases h
  | cons m r =>
    rw [sees1] at h
    simp only [Bool.and_eq_true, Bool.not_eq_true', beq_iff_eq] at h
    obtain ⟨b, p⟩ := m
    simp only at h
    exact ⟨r, by rw [h.1, h.2]; rfl⟩
theorem sees2_head {r : List Mk} {c d : Nat} (h : seesL r [c, d] = true) : ∃ r', r = mk c :: mk d :: r' := by
  cases r with
  | nil => cases h
  | cons m r =>
    rw [sees2] at h
    simp only [Bool.and_eq_true, Bool.not_eq_true', beq_iff_eq] at h
    obtain ⟨b, p⟩ := m
    simp only at h
    obtain ⟨r', rfl⟩ := sees1_head h.2
    exact ⟨r', by rw [h.1.1, h.1.2]; rfl⟩
theorem signs_head {ere : Bool} {r : List Mk} {c : Nat} (h : seesL r (signB ere c) = true) : ∃ r', r = (signB ere c).map mk ++ r' := by
  cases ere with
  | true => exact sees1_head h
  | false => exact sees2_head h
theorem Fin'.rep {ere top : Bool} {r : List Mk} (h : Fin' ere top r) : repL ere r = false := by
  rcases h with rfl | h | ⟨h, _⟩
  · cases ere <;> rfl
  · simp only [Bool.and_eq_true] at h
    obtain ⟨rfl, h⟩ := h
    obtain ⟨r', rfl⟩ := sees1_head h
    simp only [repL, signB, if_true, seesMk1]
    decide
  · obtain ⟨r', rfl⟩ := signs_head h
    cases ere with
    | true =>
      simp only [repL, signB, if_true, List.map_cons, List.map_nil, List.cons_append, List.nil_append, seesMk1]
      decide
    | false =>
      simp only [repL, signB, Bool.false_eq_true, if_false, List.map_cons, List.map_nil, List.cons_append, List.nil_append, seesMk1, seesMk2]
      decide
/-- What closes the whole, where k groups may still be opened. -/
def Cl (ere : Bool) (k : Nat) (r : List Mk) : Prop := if k = 64 then r = [] else seesL r (signB ere 41) = true
theorem Cl.fin {ere : Bool} {k : Nat} {r : List Mk} (h : Cl ere k r) : Fin' ere (k == 64) r := by
  unfold Cl at h
  split at h
  · exact .inl h
  · rename_i hk
    exact .inr (.inr ⟨h, by simpa using hk⟩)
theorem Cl.bar {ere : Bool} {k : Nat} {r : List Mk} (h : Cl ere k r) : (ere && seesL r [124]) = false := by
  unfold Cl at h
  split at h
  · subst h; cases ere <;> rfl
  · obtain ⟨r', rfl⟩ := signs_head h
    cases ere with
    | true => simp only [signB, if_true, List.map_cons, List.map_nil, List.cons_append, List.nil_append, seesMk1]; decide
    | false => rfl
section
variable {ere : Bool} {L : List Mk} {grp : Rst → Out (List Nd)} {top : Bool}
theorem row_fin {f : Nat} {all : List Nd} {n : Nat} {lead : Bool} {s : Rst} (h : Fin' ere top (L.drop s.i)) : rowL ere top L grp (f + 1) all n lead s = .ok (n, all) s := by
  rw [rowL]
  by_cases hl : L.length ≤ s.i
  · rw [if_pos hl]
  · rw [if_neg hl]
    by_cases h2 : (ere && seesAt L s.i [124]) = true
    · rw [if_pos h2]
    · rw [if_neg h2]
      rcases h with h | h | ⟨h, ht⟩
      · have := List.drop_eq_nil_iff.1 h
        exact absurd this hl
      · exact absurd h h2
      · rw [if_pos (show seesAt L s.i (signB ere 41) = true from h), ht]
        rfl
theorem row_one {f : Nat} {all : List Nd} {n : Nat} {lead : Bool} {s t : Rst} {re : List Nd} {tk : Bool} {str : List Nat} {rest : List Mk} (hd : L.drop s.i = str.map mk ++ rest) (hs : Hs ere str) (ha : atomL ere (n == 0) L grp s = .ok (re, tk) t) (hr : (tk && repL ere (L.drop t.i)) = false) :
    rowL ere top L grp (f + 1) all n lead s = rowL ere top L grp f (all ++ re) (n + 1) ((re.getD 0 Nd.zero).op == 2) t := by
  obtain ⟨a, b, c⟩ := hs.safe rest
  rw [← hd] at a b c
  have hlt : ¬ L.length ≤ s.i := by
    intro h
    have := hs.pos
    have := len_drop hd
    simp only [List.length_append, List.length_map] at this
    omega
  rw [rowL, if_neg hlt]
  rw [show seesAt L s.i [124] = seesL (L.drop s.i) [124] from rfl, b, if_neg Bool.false_ne_true, show seesAt L s.i (signB ere 41) = seesL (L.drop s.i) (signB ere 41) from rfl, c, if_neg Bool.false_ne_true, repeats_drop, a, Bool.false_and, if_neg Bool.false_ne_true, ha]
  simp only
  rw [repeats_drop, hr, if_neg Bool.false_ne_true]
theorem row_dup {f : Nat} {all : List Nd} {n : Nat} {lead : Bool} {s t u : Rst} {re : List Nd} {d : Nd} {str : List Nat} {rest : List Mk} (hd : L.drop s.i = str.map mk ++ rest) (hs : Hs ere str) (ha : atomL ere (n == 0) L grp s = .ok (re, true) t) (hr : repL ere (L.drop t.i) = true) (hu : dupL ere L t = .ok d u) :
    rowL ere top L grp (f + 1) all n lead s = rowL ere top L grp f (all ++ d :: re) (n + 1) ((re.getD 0 Nd.zero).op == 2) u := by
  obtain ⟨a, b, c⟩ := hs.safe rest
  rw [← hd] at a b c
  have hlt : ¬ L.length ≤ s.i := by
    intro h
    have := hs.pos
    have := len_drop hd
    simp only [List.length_append, List.length_map] at this
    omega
  rw [rowL, if_neg hlt]
  rw [show seesAt L s.i [124] = seesL (L.drop s.i) [124] from rfl, b, if_neg Bool.false_ne_true, show seesAt L s.i (signB ere 41) = seesL (L.drop s.i) (signB ere 41) from rfl, c, if_neg Bool.false_ne_true, repeats_drop, a, Bool.false_and, if_neg Bool.false_ne_true, ha]
  simp only
  rw [repeats_drop, hr, Bool.and_self, if_pos rfl, hu]
end
/-! ### Nodes by their kinds -/
theorem good_set {x : Nd} (h : goodN x = true) (ho : x.op = 1) : x = setN x.set := by
  obtain ⟨op, set, n, min, max, kids⟩ := x
  simp only at ho
  subst ho
  simp only [goodN, setN] at h ⊢
  simp at h
  simp [h]
theorem good_begin {x : Nd} (h : goodN x = true) (ho : x.op = 2) : x = beginN := by
  obtain ⟨op, set, n, min, max, kids⟩ := x
  simp only at ho
  subst ho
  simp only [goodN, beginN] at h ⊢
  simp at h
  simp [h]
theorem good_end {x : Nd} (h : goodN x = true) (ho : x.op = 3) : x = endN := by
  obtain ⟨op, set, n, min, max, kids⟩ := x
  simp only at ho
  subst ho
  simp only [goodN, endN] at h ⊢
  simp at h
  simp [h]
theorem good_cat {x : Nd} (h : goodN x = true) (ho : x.op = 4) : ∃ k : Nat, x = catN k ∧ k ≠ 1 := by
  obtain ⟨op, set, n, min, max, kids⟩ := x
  simp only at ho
  subst ho
  simp only [goodN, catN] at h ⊢
  simp at h
  refine ⟨kids.toNat, ?_, by omega⟩
  simp [h]
  omega
theorem good_alt {x : Nd} (h : goodN x = true) (ho : x.op = 5) : ∃ k : Nat, x = altN k ∧ 2 ≤ k := by
  obtain ⟨op, set, n, min, max, kids⟩ := x
  simp only at ho
  subst ho
  simp only [goodN, altN] at h ⊢
  simp at h
  refine ⟨kids.toNat, ?_, by omega⟩
  simp [h]
  omega
theorem good_rep {x : Nd} (h : goodN x = true) (ho : x.op = 6) : x = repN x.min x.max ∧ 0 ≤ x.min ∧ x.min ≤ 255 ∧ (x.max = -1 ∨ (x.min ≤ x.max ∧ x.max ≤ 255)) := by
  obtain ⟨op, set, n, min, max, kids⟩ := x
  simp only at ho
  subst ho
  simp only [goodN, repN] at h ⊢
  simp at h
  simp [h]
theorem good_group {x : Nd} (h : goodN x = true) (ho : x.op = 7) : x.set = Cls.zero ∧ x.min = 0 ∧ x.max = 0 ∧ x.kids = 1 := by
  obtain ⟨op, set, n, min, max, kids⟩ := x
  simp only at ho
  subst ho
  simp only [goodN] at h ⊢
  simp at h
  simp [h]
theorem good_ref {x : Nd} (h : goodN x = true) (ho : x.op = 8) : x.set = Cls.zero ∧ x.min = 0 ∧ x.max = 0 ∧ x.kids = 0 := by
  obtain ⟨op, set, n, min, max, kids⟩ := x
  simp only at ho
  subst ho
  simp only [goodN] at h ⊢
  simp at h
  simp [h]
theorem kidsN_un {G : Nat → List Bool → Option (Nat × List Bool)} {i : Nat} {en : List Bool} {r : Nat × List Bool} (h : kidsN G 1 i en = some r) : G i en = some r := by
  unfold kidsN at h
  split at h
  · cases h
  · rename_i j e1 h1
    simp only [kidsN, Option.some.injEq] at h
    rw [h1, h]
/-- What a tree's shape tells at a node, with the groups. -/
structure NdE (re : List Nd) (f g i : Nat) (en : List Bool) (j : Nat) (en' : List Bool) (x : Nd) : Prop where
  hx : re[i]? = some x
  good : goodN x = true
  leaf : x.op ≤ 3 ∨ x.op = 8 → j = i + 1 ∧ en' = en
  ref : x.op = 8 → ∃ n : Nat, x = refN n ∧ 1 ≤ n ∧ n ≤ en.length ∧ en.getD (n - 1) false = true
  rep : x.op = 6 → nodeN re f g (i + 1) en = some (j, en')
  grp : x.op = 7 → x = groupN (en.length + 1) ∧ en.length < 255 ∧ g < 64 ∧ ∃ e1, nodeN re f (g + 1) (i + 1) (en ++ [false]) = some (j, e1) ∧ en' = e1.set en.length true
  kids : x.op = 4 ∨ x.op = 5 → kidsN (nodeN re f g) x.kids.toNat (i + 1) en = some (j, en')
theorem good_op {x : Nd} (h : goodN x = true) : 1 ≤ x.op ∧ x.op ≤ 8 := by
  unfold goodN at h
  simp only [Bool.and_eq_true, decide_eq_true_eq] at h
  exact h.1.1.1.1
theorem nodeN_e {re : List Nd} {f g i : Nat} {en : List Bool} {j : Nat} {en' : List Bool} (h : nodeN re (f + 1) g i en = some (j, en')) : ∃ x, NdE re f g i en j en' x := by
  rw [nodeN] at h
  split at h
  · cases h
  rename_i x hx
  split at h
  · cases h
  rename_i hg
  have hg' : goodN x = true := by simpa using hg
  split at h
  · cases h
  rename_i h8
  have hop := good_op hg'
  refine ⟨x, hx, hg', ?_, ?_, ?_, ?_, ?_⟩
  · intro ho
    rw [if_neg (by omega)] at h
    have hk : x.kids = 0 := by
      have h1 := hg'
      unfold goodN at h1
      simp only [Bool.and_eq_true] at h1
      have h2 := h1.2
      rw [if_neg (by omega), if_neg (by omega), if_neg (by omega)] at h2
      simpa using h2
    rw [hk] at h
    simp only [Int.toNat_zero, kidsN, Option.some.injEq, Prod.mk.injEq] at h
    exact ⟨h.1.symm, h.2.symm⟩
  · intro ho
    have hr := good_ref hg' ho
    rw [ho] at h8
    simp only [beq_self_eq_true, Bool.true_and, Bool.or_eq_true, decide_eq_true_eq, Bool.not_eq_true', not_or, Bool.not_eq_false] at h8
    refine ⟨x.n.toNat, ?_, by omega, by omega, h8.2⟩
    obtain ⟨op, set, n, min, max, kids⟩ := x
    simp only at ho hr h8
    obtain ⟨rfl, rfl, rfl, rfl⟩ := hr
    subst ho
    simp only [refN]
    congr
    omega
  · intro ho
    rw [if_neg (by omega)] at h
    have hk : x.kids = 1 := by
      have := (good_rep hg' ho).1
      rw [this]; rfl
    rw [hk] at h
    exact kidsN_un h
  · intro ho
    have hr := good_group hg' ho
    rw [if_pos ho] at h
    split at h
    · cases h
    rename_i hn
    split at h
    · cases h
    rename_i j1 e1 h1
    cases h
    rw [hr.2.2.2] at h1
    refine ⟨?_, by omega, by omega, e1, kidsN_un h1, rfl⟩
    obtain ⟨op, set, n, min, max, kids⟩ := x
    simp only at ho hr hn
    obtain ⟨rfl, rfl, rfl, rfl⟩ := hr
    subst ho
    simp only [groupN]
    congr
    omega
  · intro ho
    rw [if_neg (by omega)] at h
    exact h
/-! ### Atoms of one node -/
theorem spB_own (ere : Bool) (b : Nat) (h : (spB ere).contains b = true) : (ownB ere).contains b = true ∧ b ≠ 40 ∧ b ≠ 110 ∧ b ≠ 123 ∧ b ≠ 10 ∨ (ere = true ∧ (ownB ere).contains b = true ∧ b ≠ 110 ∧ b ≠ 10) := by
  cases ere with
  | false =>
    refine .inl ?_
    simp [spB] at h
    rcases h with rfl | rfl | rfl | rfl | rfl | rfl <;> decide
  | true =>
    refine .inr ⟨rfl, ?_⟩
    simp [spB] at h
    rcases h with rfl | rfl | rfl | rfl | rfl | rfl | rfl | rfl | rfl | rfl | rfl | rfl <;> decide
theorem byteB_hs (ere : Bool) (b : Nat) : Hs ere (byteB ere b) := by
  unfold byteB
  split
  · exact ⟨92, [110], rfl, by decide, fun _ => by decide, fun _ _ => ⟨110, [], rfl, by decide, by decide⟩⟩
  · split
    · rename_i h
      refine ⟨92, [b], rfl, by decide, fun _ => by decide, fun he _ => ⟨b, [], rfl, ?_⟩⟩
      subst he
      simp [spB] at h
      omega
    · rename_i h
      refine ⟨b, [], rfl, ?_, fun he => ?_, fun he => ?_⟩
      · intro e; subst e; apply h; cases ere <;> decide
      · subst he
        simp [spB] at h
        omega
      · intro e; subst e; exfalso; apply h; cases ere <;> decide
theorem setB_hs (ere : Bool) (c : Cls) : Hs ere (setB ere c) := by
  unfold setB
  split
  · exact ⟨46, [], rfl, by decide, fun _ => by decide, fun _ h => by cases h⟩
  · split
    · exact byteB_hs ere _
    · rw [brackB_side]
      exact ⟨91, _, rfl, by decide, fun _ => by decide, fun _ h => by cases h⟩
theorem full_all {c : Cls} (h : c.els.length = 256) : c = allC := Cls.ext' fun i hi => by
  have h2 : (List.filter c.has (List.range 256)).length = (List.range 256).length := by rw [List.length_range]; exact h
  rw [List.length_filter_eq_length_iff] at h2
  rw [allC_has hi]
  exact h2 i (List.mem_range.2 hi)
section
variable {ere : Bool} {L : List Mk} {grp : Rst → Out (List Nd)} {first : Bool}
theorem atom_byte {b p : Nat} {en : List Bool} {rest : List Mk} (hd : L.drop p = (byteB ere b).map mk ++ rest) : atomL ere first L grp ⟨p, en⟩ = .ok ([oneN b], true) ⟨p + (byteB ere b).length, en⟩ := by
  unfold byteB at hd ⊢
  have esc : ∀ c, L.drop p = mk 92 :: mk c :: rest → (!ere && c == 40) = false → atomL ere first L grp ⟨p, en⟩ = if c = 110 then .ok ([oneN 10], true) ⟨p + 2, en⟩ else if (ownB ere).contains c then .ok ([oneN c], true) ⟨p + 2, en⟩ else if !ere && decide (49 ≤ c) && decide (c ≤ 57) then
      if en.length < c - 48 then .no 44 p else if !en.getD (c - 48 - 1) false then .no 44 p else .ok ([refN (c - 48)], true) ⟨p + 2, en⟩ else .no 40 p := by
    intro c h hc
    obtain ⟨m0, l0, d1⟩ := mark_drop h
    obtain ⟨m1, l1, d2⟩ := mark_drop d1
    unfold atomL
    simp only [m0, show (mk 92).p = false from rfl, show (mk 92).b = 92 from rfl]
    rw [if_neg (by decide), if_neg (by decide), if_neg (by decide), if_pos (by decide)]
    unfold escapeL
    simp only
    rw [if_neg (by omega), m1, if_neg (by show ¬ (false = true); decide)]
    rw [show (mk c).b = c from rfl, hc, if_neg (by decide)]
  split at hd
  · rename_i h10
    subst h10
    rw [if_pos rfl]
    rw [esc 110 hd (by cases ere <;> rfl), if_pos rfl]
    rfl
  · rename_i h10
    rw [if_neg h10]
    split at hd
    · rename_i hs
      rw [if_pos hs]
      have ho := spB_own ere b hs
      rw [esc b hd (by rcases ho with h | h <;> simp [h]), if_neg (by omega), if_pos (by rcases ho with h | h; exact h.1; exact h.2.1)]
      rfl
    · rename_i hs
      rw [if_neg hs]
      simp only [List.map_cons, List.map_nil, List.cons_append, List.nil_append] at hd
      obtain ⟨m0, l0, d1⟩ := mark_drop hd
      unfold atomL
      simp only [m0, show (mk b).p = false from rfl, show (mk b).b = b from rfl]
      have hs' : b ≠ 46 ∧ b ≠ 91 ∧ b ≠ 42 ∧ b ≠ 94 ∧ b ≠ 36 ∧ b ≠ 92 ∧ (ere = true → b ≠ 40) := by
        refine ⟨?_, ?_, ?_, ?_, ?_, ?_, fun he => ?_⟩
        all_goals (intro e; subst e; apply hs)
        all_goals first | (cases ere <;> decide) | (subst he; decide)
      rw [if_neg (by decide), if_neg hs'.1, if_neg hs'.2.1, if_neg hs'.2.2.2.2.2.1, if_neg hs'.2.2.2.1, if_neg hs'.2.2.2.2.1]
      rw [if_neg (by
        intro h
        simp only [Bool.and_eq_true, beq_iff_eq] at h
        exact hs'.2.2.2.2.2.2 h.1 h.2)]
      rfl
theorem atom_set {c : Cls} {p : Nat} {en : List Bool} {rest : List Mk} (hd : L.drop p = (setB ere c).map mk ++ rest) : atomL ere first L grp ⟨p, en⟩ = .ok ([setN c], true) ⟨p + (setB ere c).length, en⟩ := by
  unfold setB at hd ⊢
  split at hd
  · rename_i h
    rw [if_pos h]
    simp only [List.map_cons, List.map_nil, List.cons_append, List.nil_append] at hd
    obtain ⟨m0, l0, d1⟩ := mark_drop hd
    unfold atomL
    simp only [m0, show (mk 46).p = false from rfl, show (mk 46).b = 46 from rfl]
    rw [if_neg (by decide), if_pos (by decide), anyL, full_all h]
    rfl
  · rename_i h
    rw [if_neg h]
    split at hd
    · rename_i b hb
      rw [atom_byte hd]
      have : oneN b = setN c := by
        rw [oneN, setN, ← hb, els_of]
      rw [this]
    · rename_i hb
      have h91 : ∃ r, L.drop p = mk 91 :: r := ⟨_, by rw [hd, brackB_side]; rfl⟩
      obtain ⟨r, h91⟩ := h91
      obtain ⟨m0, l0, d1⟩ := mark_drop h91
      unfold atomL
      simp only [m0, show (mk 91).p = false from rfl, show (mk 91).b = 91 from rfl]
      rw [if_neg (by decide), if_neg (by decide), if_pos (by decide), brackL]
      simp only
      rw [bracketL_brackB hd]
theorem atom_ref {n p : Nat} {en : List Bool} {rest : List Mk} (he : ere = false) (h1 : 1 ≤ n) (h9 : n ≤ 9) (hl : n ≤ en.length) (hen : en.getD (n - 1) false = true) (hd : L.drop p = mk 92 :: mk (48 + n) :: rest) :
    atomL ere first L grp ⟨p, en⟩ = .ok ([refN n], true) ⟨p + 2, en⟩ := by
  subst he
  obtain ⟨m0, l0, d1⟩ := mark_drop hd
  obtain ⟨m1, l1, d2⟩ := mark_drop d1
  unfold atomL
  simp only [m0, show (mk 92).p = false from rfl, show (mk 92).b = 92 from rfl]
  rw [if_neg (by decide), if_neg (by decide), if_neg (by decide), if_pos (by decide)]
  unfold escapeL
  simp only
  rw [if_neg (by omega), m1, if_neg (by show ¬ (false = true); decide)]
  rw [show (mk (48 + n)).b = 48 + n from rfl, beq_eq_false_iff_ne.2 (show 48 + n ≠ 40 by omega), Bool.and_false, if_neg (by decide), if_neg (by omega)]
  have ho : (ownB false).contains (48 + n) = false := by
    simp [ownB]
    omega
  rw [ho, if_neg (by decide), decide_eq_true (show 49 ≤ 48 + n by omega), decide_eq_true (show 48 + n ≤ 57 by omega), if_pos (by decide)]
  rw [show 48 + n - 48 = n by omega, if_neg (by omega), hen, if_neg (by decide)]
theorem atom_begin {p : Nat} {en : List Bool} {rest : List Mk} (h : ere = true ∨ first = true) (hd : L.drop p = mk 94 :: rest) : atomL ere first L grp ⟨p, en⟩ = .ok ([beginN], false) ⟨p + 1, en⟩ := by
  obtain ⟨m0, l0, d1⟩ := mark_drop hd
  unfold atomL
  simp only [m0, show (mk 94).p = false from rfl, show (mk 94).b = 94 from rfl]
  rw [if_neg (by decide), if_neg (by decide), if_neg (by decide), if_neg (by decide), if_pos (by decide), beginL]
  rcases h with h | h <;> subst h <;> simp
theorem atom_end {p : Nat} {en : List Bool} {rest : List Mk} (h : ere = true ∨ rest = [] ∨ seesL rest [92, 41] = true) (hd : L.drop p = mk 36 :: rest) : atomL ere first L grp ⟨p, en⟩ = .ok ([endN], false) ⟨p + 1, en⟩ := by
  obtain ⟨m0, l0, d1⟩ := mark_drop hd
  unfold atomL
  simp only [m0, show (mk 36).p = false from rfl, show (mk 36).b = 36 from rfl]
  rw [if_neg (by decide), if_neg (by decide), if_neg (by decide), if_neg (by decide), if_neg (by decide), if_pos (by decide), endL]
  simp only
  rcases h with h | h | h
  · subst h
    simp
  · subst h
    have := List.drop_eq_nil_iff.1 d1
    rw [decide_eq_false (by omega), Bool.and_false, Bool.false_and, if_neg (by decide)]
  · rw [show seesAt L (p + 1) [92, 41] = seesL (L.drop (p + 1)) [92, 41] from rfl, d1, h, Bool.not_true, Bool.and_false, if_neg (by decide)]
end
/-! ### Duplications -/
theorem itoB_nat (n : Nat) : itoB (n : Int) = digB n := by
  unfold itoB
  rw [if_neg (by omega)]
  rfl
theorem head_sign {ere : Bool} {c : Nat} (hc : 57 < c) (rest : List Mk) : ∀ m l, (signB ere c).map mk ++ rest = m :: l → m.p = true ∨ m.b < 48 ∨ 57 < m.b := by
  intro m l h
  cases ere with
  | false =>
    simp only [signB, Bool.false_eq_true, if_false, List.map_cons, List.cons_append, List.cons.injEq] at h
    rw [← h.1]; right; right; show 57 < 92; decide
  | true =>
    simp only [signB, if_true, List.map_cons, List.cons_append, List.cons.injEq] at h
    rw [← h.1]; right; right; exact hc
theorem sees_sign (ere : Bool) (c : Nat) (rest : List Mk) : seesL ((signB ere c).map mk ++ rest) (signB ere c) = true := by
  cases ere with
  | true => simp only [signB, if_true, List.map_cons, List.map_nil, List.cons_append, List.nil_append, seesMk1, beq_self_eq_true]
  | false => simp only [signB, Bool.false_eq_true, if_false, List.map_cons, List.map_nil, List.cons_append, List.nil_append, seesMk1, seesMk2, beq_self_eq_true, Bool.and_self]
theorem drop_add {L : List Mk} {p : Nat} {s : List Nat} {r : List Mk} (h : L.drop p = s.map mk ++ r) : L.drop (p + s.length) = r := by
  rw [← List.drop_drop, h, List.drop_left' (by simp)]
section
variable {ere : Bool} {L : List Mk}
theorem interval_read {p : Nat} {en : List Bool} {lo hi : Int} {rest : List Mk} (h1 : 0 ≤ lo) (h2 : lo ≤ 255) (h3 : hi = -1 ∨ (lo ≤ hi ∧ hi ≤ 255))
    (hd : L.drop p = (signB ere 123 ++ (itoB lo ++ ((if hi = lo then [] else 44 :: (if 0 ≤ hi then itoB hi else [])) ++ signB ere 125))).map mk ++ rest) :
    intervalL ere L ⟨p, en⟩ = .ok (lo, hi) ⟨p + (signB ere 123 ++ (itoB lo ++ ((if hi = lo then [] else 44 :: (if 0 ≤ hi then itoB hi else [])) ++ signB ere 125))).length, en⟩ := by
  obtain ⟨m, rfl⟩ : ∃ k : Nat, lo = k := ⟨lo.toNat, by omega⟩
  rw [itoB_nat] at hd ⊢
  simp only [List.map_append, List.append_assoc] at hd
  have d1 := drop_add hd
  rw [signB_len] at d1
  simp only [List.length_append, signB_len]
  unfold intervalL
  simp only
  by_cases he : hi = (m : Int)
  · subst he
    simp only [if_true, List.map_nil, List.nil_append, List.length_nil, Nat.zero_add] at d1 ⊢
    have n1 := numL_digits (head_sign (by decide) rest) d1
    have d2 := drop_add d1
    rw [n1]
    simp only
    have hs : seesAt L (p + wideB ere + (digB m).length) [44] = false := by
      rw [seesAt, d2]
      cases ere with
      | true => simp only [signB, if_true, List.map_cons, List.map_nil, List.cons_append, seesMk1]; decide
      | false => simp only [signB, Bool.false_eq_true, if_false, List.map_cons, List.map_nil, List.cons_append, seesMk1]; decide
    have hs2 : seesAt L (p + wideB ere + (digB m).length) (signB ere 125) = true := by rw [seesAt, d2, sees_sign]
    rw [hs, if_neg Bool.false_ne_true]
    simp only
    rw [hs2, show min (m : Int) 256 = m by omega, decide_eq_false (show ¬ (m : Int) < 0 by omega), decide_eq_false (show ¬ 255 < (m : Int) by omega), decide_eq_false (show ¬ (m : Int) < (m : Int) by omega), Bool.and_false, if_neg (by decide)]
    congr 2
    omega
  · rw [if_neg he] at d1 ⊢
    simp only [List.map_cons, List.cons_append] at d1
    have n1 := numL_digits (u := m) (by
      intro x l h
      simp only [List.cons.injEq] at h
      rw [← h.1]; right; left; show 44 < 48; decide) d1
    have d2 := drop_add d1
    rw [n1]
    simp only
    have hs : seesAt L (p + wideB ere + (digB m).length) [44] = true := by
      rw [seesAt, d2, seesMk1]; rfl
    obtain ⟨_, _, d3⟩ := mark_drop d2
    rw [hs, if_pos rfl, show min (m : Int) 256 = m by omega, decide_eq_false (show ¬ (m : Int) < 0 by omega), decide_eq_false (show ¬ 255 < (m : Int) by omega)]
    by_cases h0 : 0 ≤ hi
    · obtain ⟨M, rfl⟩ : ∃ k : Nat, hi = k := ⟨hi.toNat, by omega⟩
      rw [if_pos h0] at d3 ⊢
      rw [itoB_nat] at d3 ⊢
      have n2 := numL_digits (head_sign (by decide) rest) d3
      have d4 := drop_add d3
      rw [n2]
      simp only
      have hs2 : seesAt L (p + wideB ere + (digB m).length + 1 + (digB M).length) (signB ere 125) = true := by rw [seesAt, d4, sees_sign]
      rw [hs2, show min (M : Int) 256 = M by omega, decide_eq_false (show ¬ 255 < (M : Int) by omega), decide_eq_false (show ¬ (M : Int) < (m : Int) by omega), Bool.and_false, if_neg (by decide)]
      simp only [List.length_cons]
      congr 2
      omega
    · rw [if_neg h0] at d3 ⊢
      have hm1 : hi = -1 := by omega
      subst hm1
      simp only [List.map_nil, List.nil_append] at d3
      have n2 := numL_none (head_sign (by decide) rest) d3
      rw [n2]
      simp only
      have hs2 : seesAt L (p + wideB ere + (digB m).length + 1) (signB ere 125) = true := by rw [seesAt, d3, sees_sign]
      rw [hs2, decide_eq_false (show ¬ (0 : Int) ≤ -1 by decide), decide_eq_false (show ¬ (255 : Int) < -1 by decide), Bool.false_and, if_neg (by decide)]
      simp only [List.length_cons, List.length_nil]
      congr 2
      omega
theorem dup_read {p : Nat} {en : List Bool} {x : Nd} {rest : List Mk} (hx : goodN x = true) (ho : x.op = 6) (hd : L.drop p = (dupB ere x).map mk ++ rest) :
    repL ere (L.drop p) = true ∧ dupL ere L ⟨p, en⟩ = .ok x ⟨p + (dupB ere x).length, en⟩ := by
  obtain ⟨hx1, h1, h2, h3⟩ := good_rep hx ho
  generalize hlo : x.min = lo at hx1 h1 h2 h3
  generalize hhi : x.max = hi at hx1 h3
  unfold dupB at hd ⊢
  rw [hlo, hhi] at hd ⊢
  by_cases c1 : lo = 0 ∧ hi < 0
  · rw [if_pos c1] at hd ⊢
    simp only [List.map_cons, List.map_nil, List.cons_append, List.nil_append] at hd
    refine ⟨by rw [hd, repL, seesMk1]; rfl, ?_⟩
    rw [dupL, if_pos (by rw [seesAt]; simp only; rw [hd, seesMk1]; rfl), hx1, c1.1, show hi = -1 by omega]
    rfl
  · rw [if_neg c1] at hd ⊢
    by_cases c2 : ere = true ∧ lo = 1 ∧ hi < 0
    · rw [if_pos c2] at hd ⊢
      obtain ⟨rfl, rfl, c2⟩ := c2
      simp only [List.map_cons, List.map_nil, List.cons_append, List.nil_append] at hd
      refine ⟨by rw [hd, repL]; simp only [seesMk1]; rfl, ?_⟩
      rw [dupL, if_neg (by rw [seesAt]; simp only; rw [hd, seesMk1]; decide), if_pos (by rw [seesAt]; simp only; rw [hd, seesMk1]; rfl), hx1, show hi = -1 by omega]
      rfl
    · rw [if_neg c2] at hd ⊢
      by_cases c3 : ere = true ∧ lo = 0 ∧ hi = 1
      · rw [if_pos c3] at hd ⊢
        obtain ⟨rfl, rfl, rfl⟩ := c3
        simp only [List.map_cons, List.map_nil, List.cons_append, List.nil_append] at hd
        refine ⟨by rw [hd, repL]; simp only [seesMk1]; rfl, ?_⟩
        rw [dupL, if_neg (by rw [seesAt]; simp only; rw [hd, seesMk1]; decide), if_neg (by rw [seesAt]; simp only; rw [hd, seesMk1]; decide), if_pos (by rw [seesAt]; simp only; rw [hd, seesMk1]; rfl), hx1]
        rfl
      · rw [if_neg c3] at hd ⊢
        have hi1 := interval_read (en := en) h1 h2 h3 hd
        generalize itoB lo ++ ((if hi = lo then [] else 44 :: (if 0 ≤ hi then itoB hi else [])) ++ signB ere 125) = body at hd hi1 ⊢
        rw [List.map_append, List.append_assoc] at hd
        have hs := sees_sign ere 123 (body.map mk ++ rest)
        rw [← hd] at hs
        refine ⟨by rw [repL, hs, Bool.or_true], ?_⟩
        have no : ∀ c, c = 42 ∨ c = 43 ∨ c = 63 → seesAt L p [c] = false := by
          intro c hc
          rw [seesAt, hd]
          cases ere with
          | true => simp only [signB, if_true, List.map_cons, List.cons_append, seesMk1]; rcases hc with rfl | rfl | rfl <;> decide
          | false => simp only [signB, Bool.false_eq_true, if_false, List.map_cons, List.cons_append, seesMk1]; rcases hc with rfl | rfl | rfl <;> decide
        rw [dupL]
        simp only
        rw [no 42 (by simp), no 43 (by simp), no 63 (by simp), if_neg Bool.false_ne_true, if_neg Bool.false_ne_true, if_neg Bool.false_ne_true, hi1]
        simp only
        rw [← hx1]
end
end Go.Proofs.YtbdjcmhfcdamiaaDoor

/- Plain law: what is spelled of a tree is read as the tree; no line end stands in it. No program in sight. No condition. -/
namespace Go.Proofs.YtbdjcmhfcdamiaaDoor

/-! ### Parts of a list of nodes -/
def seg (re : List Nd) (i j : Nat) : List Nd := (re.drop i).take (j - i)
theorem seg_nil (re : List Nd) (i : Nat) : seg re i i = [] := by simp [seg]
theorem seg_cons {re : List Nd} {i j : Nat} {x : Nd} (hx : re[i]? = some x) (hij : i < j) : seg re i j = x :: seg re (i + 1) j := by
  obtain ⟨hi, hx⟩ := List.getElem?_eq_some_iff.1 hx
  rw [seg, seg, List.drop_eq_getElem_cons hi, hx, show j - i = (j - (i + 1)) + 1 by omega, List.take_succ_cons]
theorem seg_append {re : List Nd} {i a j : Nat} (h1 : i ≤ a) (h2 : a ≤ j) : seg re i a ++ seg re a j = seg re i j := by
  rw [seg, seg, seg, show j - i = (a - i) + (j - a) by omega, List.take_add, List.drop_drop, show i + (a - i) = a by omega]
theorem seg_all (re : List Nd) : seg re 0 re.length = re := by simp [seg]
theorem node_lt {re : List Nd} {f g i : Nat} {en : List Bool} {j : Nat} {en' : List Bool} (h : nodeN re f g i en = some (j, en')) : i < j ∧ j ≤ re.length := by
  have := nodeN_good re f g i en _ h
  exact ⟨this.1, this.2.1⟩
theorem kids_le {re : List Nd} {f g : Nat} : ∀ (k i : Nat) (en : List Bool) (j : Nat) (en' : List Bool), kidsN (nodeN re f g) k i en = some (j, en') → i + k ≤ j
  | 0, i, en, j, en', h => by simp only [kidsN, Option.some.injEq, Prod.mk.injEq] at h; omega
  | k + 1, i, en, j, en', h => by
    rw [kidsN] at h
    split at h
    · cases h
    · rename_i a e1 h1
      have := node_lt h1
      have := kids_le k a e1 j en' h
      omega
theorem node_el {re : List Nd} : ∀ (f g i : Nat) (en : List Bool) (j : Nat) (en' : List Bool), nodeN re f g i en = some (j, en') → en.length ≤ 255 → en'.length ≤ 255
  | 0, _, _, _, _, _, h, _ => by simp [nodeN] at h
  | f + 1, g, i, en, j, en', h, hl => by
    have hk : ∀ (g k i : Nat) (en : List Bool) (j : Nat) (en' : List Bool), kidsN (nodeN re f g) k i en = some (j, en') → en.length ≤ 255 → en'.length ≤ 255 := by
      intro g k
      induction k with
      | zero => intro i en j en' h hl; simp only [kidsN, Option.some.injEq, Prod.mk.injEq] at h; rw [← h.2]; exact hl
      | succ k ih =>
        intro i en j en' h hl
        rw [kidsN] at h
        split at h
        · cases h
        · rename_i a e1 h1
          exact ih _ _ _ _ h (node_el f g i en a e1 h1 hl)
    obtain ⟨x, hx⟩ := nodeN_e h
    have ho := good_op hx.good
    by_cases h1 : x.op ≤ 3 ∨ x.op = 8
    · rw [(hx.leaf h1).2]; exact hl
    · by_cases h6 : x.op = 6
      · exact node_el f g _ _ _ _ (hx.rep h6) hl
      · by_cases h7 : x.op = 7
        · obtain ⟨_, h2, _, e1, h3, rfl⟩ := hx.grp h7
          have := node_el f (g + 1) _ _ _ _ h3 (by simp; omega)
          simpa using this
        · exact hk _ _ _ _ _ _ (hx.kids (by omega)) hl
/-! ### How parts begin -/
theorem itoB_head (m : Int) : ∃ y t, itoB m = y :: t ∧ (y = 45 ∨ 48 ≤ y ∧ y ≤ 57) := by
  unfold itoB
  split
  · exact ⟨45, _, rfl, .inl rfl⟩
  · cases h : digB m.toNat with
    | nil => have := digB_len m.toNat; rw [h] at this; cases this
    | cons y t => exact ⟨y, t, rfl, .inr (digB_digit m.toNat y (by rw [h]; exact List.mem_cons_self ..))⟩
theorem sign40_hs (ere : Bool) (t : List Nat) : Hs ere (signB ere 40 ++ t) := by
  cases ere with
  | true => exact ⟨40, t, rfl, by decide, fun _ => by decide, fun h => by cases h⟩
  | false => exact ⟨92, 40 :: t, rfl, by decide, fun _ => by decide, fun _ _ => ⟨40, t, rfl, by decide, by decide⟩⟩
section
variable {ere : Bool} {re : List Nd} {wh : Nat → Option (List Nat × Nat)}
theorem atomP_hs {i : Nat} {s : List Nat} {j : Nat} (h : atomP ere re wh i = some (s, j)) : Hs ere s := by
  unfold atomP at h
  split at h
  · cases h
  · split at h
    · cases h; exact setB_hs _ _
    · split at h
      · split at h
        · cases h
        · split at h
          · cases h; exact sign40_hs _ _
          · split at h
            · cases h
            · cases h; exact sign40_hs _ _
      · split at h
        · split at h
          · cases h
          · rename_i hc
            cases h
            rename_i x _ _ _ _
            obtain ⟨y, t, hy, hy2⟩ := itoB_head x.n
            rw [hy]
            exact ⟨92, y :: t, rfl, by decide, fun _ => by decide, fun _ _ => ⟨y, t, rfl, by omega, by omega⟩⟩
        · cases h
theorem partP_hs {first last : Bool} {i : Nat} {s : List Nat} {j : Nat} (h : partP ere re wh first last i = some (s, j)) : Hs ere s := by
  unfold partP at h
  split at h
  · cases h
  · split at h
    · split at h
      · cases h; exact ⟨94, [], rfl, by decide, fun _ => by decide, fun _ h => by cases h⟩
      · cases h
    · split at h
      · split at h
        · cases h; exact ⟨36, [], rfl, by decide, fun _ => by decide, fun _ h => by cases h⟩
        · cases h
      · split at h
        · split at h
          · cases h
          · rename_i h1
            cases h
            exact (atomP_hs h1).append _
        · exact atomP_hs h
theorem partsP_hs : ∀ {m : Nat} {first : Bool} {i : Nat} {s : List Nat} {j : Nat}, partsP ere re wh (m + 1) first i = some (s, j) → Hs ere s := by
  intro m first i s j h
  rw [partsP] at h
  split at h
  · cases h
  · rename_i h1
    split at h
    · cases h
    · cases h
      exact (partP_hs h1).append _
theorem partsP_len : ∀ (m : Nat) {first : Bool} {i : Nat} {s : List Nat} {j : Nat}, partsP ere re wh m first i = some (s, j) → m ≤ s.length
  | 0, _, _, _, _, _ => Nat.zero_le _
  | m + 1, first, i, s, j, h => by
    rw [partsP] at h
    split at h
    · cases h
    · rename_i h1
      split at h
      · cases h
      · rename_i h2
        cases h
        have := (partP_hs h1).pos
        have := partsP_len m h2
        rw [List.length_append]
        omega
theorem rowP_hs {i : Nat} {s : List Nat} {j : Nat} (h : rowP ere re wh i = some (s, j)) : Hs ere s := by
  unfold rowP at h
  split at h
  · cases h
  · rename_i x hx
    split at h
    · exact partP_hs h
    · split at h
      · cases h
      · rename_i h1
        obtain ⟨m, hm⟩ : ∃ m, x.kids.toNat = m + 1 := ⟨x.kids.toNat - 1, by omega⟩
        rw [hm] at h
        exact partsP_hs h
theorem rowsP_len : ∀ (m : Nat) {first : Bool} {i : Nat} {s : List Nat} {j : Nat}, rowsP ere re wh m first i = some (s, j) → m ≤ s.length
  | 0, _, _, _, _, _ => Nat.zero_le _
  | m + 1, first, i, s, j, h => by
    rw [rowsP] at h
    split at h
    · cases h
    · rename_i h1
      split at h
      · cases h
      · rename_i h2
        cases h
        have := (rowP_hs h1).pos
        have := rowsP_len m h2
        simp only [List.length_append]
        omega
theorem rowsP_bar {m i : Nat} {s : List Nat} {j : Nat} (h : rowsP ere re wh (m + 1) false i = some (s, j)) : ∃ t, s = 124 :: t ∧ rowsP ere re wh (m + 1) true i = some (t, j) := by
  rw [rowsP] at h ⊢
  split at h
  · cases h
  · split at h
    · cases h
    · rename_i h2
      cases h
      exact ⟨_, rfl, rfl⟩
/-! ### There and back -/
/-- The whole at a place, where k more groups may be opened. -/
def WOK (ere : Bool) (re : List Nd) (L : List Mk) (wh : Nat → Option (List Nat × Nat)) (k : Nat) : Prop :=
  ∀ (F i : Nat) (en : List Bool) (j : Nat) (en' : List Bool) (s : List Nat) (jj p : Nat) (rest : List Mk), en.length ≤ 255 → nodeN re F (64 - k) i en = some (j, en') → wh i = some (s, jj) → L.drop p = s.map mk ++ rest → Cl ere k rest →
    jj = j ∧ sidesK ere L k ⟨p, en⟩ = .ok (seg re i j) ⟨p + s.length, en'⟩
variable {L : List Mk}
theorem sides_empty {k p : Nat} {en : List Bool} {rest : List Mk} (hk : k ≠ 64) (hd : L.drop p = (signB ere 41).map mk ++ rest) : sidesK ere L k ⟨p, en⟩ = .ok [catN 0] ⟨p, en⟩ := by
  have hs := sees_sign ere 41 rest
  rw [← hd] at hs
  have hc : Cl ere k (L.drop p) := by unfold Cl; rw [if_neg hk]; exact hs
  rw [sidesK, sidesS, sidesL, rowS, row_fin (s := ⟨p, en⟩) hc.fin]
  simp only
  rw [show seesAt L p [124] = seesL (L.drop p) [124] from rfl, hc.bar]
  rfl
theorem atom_group {grp : Rst → Out (List Nd)} {first : Bool} {p : Nat} {en : List Bool} {rest : List Mk} (hd : L.drop p = (signB ere 40).map mk ++ rest) : atomL ere first L grp ⟨p, en⟩ = withTrue (grp ⟨p, en⟩) := by
  cases ere with
  | true =>
    simp only [signB, if_true, List.map_cons, List.map_nil, List.cons_append, List.nil_append] at hd
    obtain ⟨m0, l0, d1⟩ := mark_drop hd
    unfold atomL
    simp only [m0, show (mk 40).p = false from rfl, show (mk 40).b = 40 from rfl]
    rw [if_neg (by decide), if_neg (by decide), if_neg (by decide), if_neg (by decide), if_neg (by decide), if_neg (by decide), if_pos (by decide)]
  | false =>
    simp only [signB, Bool.false_eq_true, if_false, List.map_cons, List.map_nil, List.cons_append, List.nil_append] at hd
    obtain ⟨m0, l0, d1⟩ := mark_drop hd
    obtain ⟨m1, l1, d2⟩ := mark_drop d1
    unfold atomL
    simp only [m0, show (mk 92).p = false from rfl, show (mk 92).b = 92 from rfl]
    rw [if_neg (by decide), if_neg (by decide), if_neg (by decide), if_pos (by decide)]
    unfold escapeL
    simp only
    rw [if_neg (by omega), m1, if_neg (by show ¬ (false = true); decide), if_pos (by rfl)]
theorem group_ok {k p : Nat} {en e1 : List Bool} {inner : List Nat} {rest : List Mk} {l : List Nd} (hk : k < 64) (hen : en.length < 255) (hd : L.drop p = (signB ere 40 ++ (inner ++ signB ere 41)).map mk ++ rest)
    (hs : sidesK ere L k ⟨p + wideB ere, en ++ [false]⟩ = .ok l ⟨p + wideB ere + inner.length, e1⟩) :
    groupL ere L (k + 1) ⟨p, en⟩ = .ok (groupN (en.length + 1) :: l) ⟨p + (signB ere 40 ++ (inner ++ signB ere 41)).length, e1.set en.length true⟩ := by
  rw [groupL_succ ere L k hk, if_neg (by simp only; omega)]
  simp only
  rw [hs]
  simp only
  simp only [List.map_append, List.append_assoc] at hd
  have d1 := drop_add hd
  have d2 := drop_add d1
  rw [signB_len] at d2
  rw [if_neg]
  · simp only [List.length_append, signB_len]
    congr 2
    omega
  · intro e
    rw [e, List.drop_length] at d2
    cases ere <;> simp [signB] at d2
theorem atom_ok {k : Nat} (hk : k ≤ 64) (HW : ∀ k', k = k' + 1 → WOK ere re L wh k') {F i : Nat} {en : List Bool} {j : Nat} {en' : List Bool} {s : List Nat} {jj p : Nat} {rest : List Mk} {first : Bool} (_ : en.length ≤ 255)
    (hn : nodeN re F (64 - k) i en = some (j, en')) (ha : atomP ere re wh i = some (s, jj)) (hd : L.drop p = s.map mk ++ rest) :
    jj = j ∧ atomL ere first L (groupL ere L k) ⟨p, en⟩ = .ok (seg re i j, true) ⟨p + s.length, en'⟩ := by
  cases F with
  | zero => simp [nodeN] at hn
  | succ F =>
    have hij := node_lt hn
    obtain ⟨x, hx⟩ := nodeN_e hn
    have hsg := seg_cons hx.hx hij.1
    unfold atomP at ha
    rw [hx.hx] at ha
    simp only at ha
    split at ha
    · rename_i h1
      obtain ⟨rfl, rfl⟩ := hx.leaf (.inl (by omega))
      cases ha
      refine ⟨rfl, ?_⟩
      rw [hsg, seg_nil, good_set hx.good h1]
      exact atom_set hd
    · split at ha
      · rename_i h7
        obtain ⟨hxe, hel, hg, e1, hin, rfl⟩ := hx.grp h7
        obtain ⟨k, rfl⟩ : ∃ k', k = k' + 1 := ⟨k - 1, by omega⟩
        have hk64 : k < 64 := by omega
        rw [show 64 - (k + 1) + 1 = 64 - k by omega] at hin
        split at ha
        · cases ha
        · rename_i y hy
          split at ha
          · rename_i h4
            cases F with
            | zero => simp [nodeN] at hin
            | succ F =>
              obtain ⟨y', hy'⟩ := nodeN_e hin
              obtain rfl : y' = y := Option.some.inj (hy'.hx.symm.trans hy)
              have hkid := hy'.kids (.inl h4.1)
              rw [h4.2] at hkid
              simp only [Int.toNat_zero, kidsN, Option.some.injEq, Prod.mk.injEq] at hkid
              obtain ⟨rfl, rfl⟩ := hkid
              cases ha
              refine ⟨rfl, ?_⟩
              have hd' : L.drop p = (signB ere 40 ++ ([] ++ signB ere 41)).map mk ++ rest := hd
              have hd2 := hd
              simp only [List.map_append, List.append_assoc] at hd2
              have d1 := drop_add hd2
              rw [signB_len] at d1
              have hs := sides_empty (en := en ++ [false]) (show k ≠ 64 by omega) d1
              have hgr := group_ok hk64 hel hd' hs
              rw [atom_group hd2, hgr, hsg, seg_cons hy (by omega), seg_nil, hxe]
              obtain ⟨c, hc, _⟩ := good_cat hy'.good h4.1
              have hc0 : c = 0 := by
                have := h4.2
                rw [hc] at this
                simp only [catN] at this
                omega
              rw [hc, hc0]
              rfl
          · split at ha
            · cases ha
            · rename_i inner k2 hw
              cases ha
              have hd2 := hd
              simp only [List.map_append, List.append_assoc] at hd2
              have d1 := drop_add hd2
              rw [signB_len] at d1
              obtain ⟨rfl, hs⟩ := HW k rfl F (i + 1) (en ++ [false]) j e1 inner jj (p + wideB ere) _ (by simp; omega) hin hw d1 (by
                unfold Cl
                rw [if_neg (by omega)]
                exact sees_sign ere 41 rest)
              refine ⟨rfl, ?_⟩
              rw [atom_group hd2, group_ok hk64 hel hd hs, hsg, hxe]
              rfl
      · split at ha
        · rename_i h8
          split at ha
          · cases ha
          · rename_i hc
            obtain ⟨n, hxe, h1, h2, h3⟩ := hx.ref h8
            obtain ⟨rfl, rfl⟩ := hx.leaf (.inr h8)
            cases ha
            have hxn : x.n = (n : Int) := by rw [hxe]; rfl
            have he : ere = false := by cases ere with | false => rfl | true => exact absurd (.inl rfl) hc
            have h9 : n ≤ 9 := by
              rw [hxn] at hc
              omega
            rw [hxn, itoB_nat, digB_small (by omega)] at hd ⊢
            refine ⟨rfl, ?_⟩
            rw [hsg, seg_nil, hxe]
            exact atom_ref he h1 h9 h2 h3 hd
        · cases ha
theorem part_ok {k : Nat} (hk : k ≤ 64) (HW : ∀ k', k = k' + 1 → WOK ere re L wh k') {F i : Nat} {en : List Bool} {j : Nat} {en' : List Bool} {s : List Nat} {jj p : Nat} {rest : List Mk} {first last : Bool} (hel : en.length ≤ 255)
    (hn : nodeN re F (64 - k) i en = some (j, en')) (hp : partP ere re wh first last i = some (s, jj)) (hd : L.drop p = s.map mk ++ rest) (hrep : repL ere rest = false) (hlast : last = true → Fin' ere (k == 64) rest)
    {f : Nat} {all : List Nd} {n : Nat} {lead : Bool} (hf : first = (n == 0)) :
    jj = j ∧ ∃ lead', rowL ere (k == 64) L (groupL ere L k) (f + 1) all n lead ⟨p, en⟩ = rowL ere (k == 64) L (groupL ere L k) f (all ++ seg re i j) (n + 1) lead' ⟨p + s.length, en'⟩ := by
  have hs := partP_hs hp
  have hn0 := hn
  cases F with
  | zero => simp [nodeN] at hn
  | succ F =>
    have hij := node_lt hn
    obtain ⟨x, hx⟩ := nodeN_e hn
    have hsg := seg_cons hx.hx hij.1
    unfold partP at hp
    rw [hx.hx] at hp
    simp only at hp
    have hrest : repL ere (L.drop (p + s.length)) = false := by rw [drop_add hd]; exact hrep
    split at hp
    · rename_i h2
      obtain ⟨rfl, rfl⟩ := hx.leaf (.inl (by omega))
      split at hp
      · rename_i hc
        cases hp
        refine ⟨rfl, (([beginN] : List Nd).getD 0 Nd.zero).op == 2, ?_⟩
        rw [hsg, seg_nil, good_begin hx.good h2]
        refine row_one hd hs (atom_begin ?_ hd) rfl
        rw [← hf]
        simpa using hc
      · cases hp
    · split at hp
      · rename_i h3
        obtain ⟨rfl, rfl⟩ := hx.leaf (.inl (by omega))
        split at hp
        · rename_i hc
          cases hp
          refine ⟨rfl, (([endN] : List Nd).getD 0 Nd.zero).op == 2, ?_⟩
          rw [hsg, seg_nil, good_end hx.good h3]
          refine row_one hd hs (atom_end ?_ hd) rfl
          cases he : ere with
          | true => exact .inl rfl
          | false =>
            subst he
            refine .inr ?_
            rcases hlast (by simpa using hc) with h | h | h
            · exact .inl h
            · cases h
            · exact .inr h.1
        · cases hp
      · split at hp
        · rename_i h6
          split at hp
          · cases hp
          · rename_i t j1 ha
            cases hp
            have hd' := hd
            rw [List.map_append, List.append_assoc] at hd'
            obtain ⟨rfl, hat⟩ := atom_ok hk HW (first := n == 0) hel (hx.rep h6) ha hd'
            have d1 := drop_add hd'
            obtain ⟨hr1, hr2⟩ := dup_read (en := en') hx.good h6 d1
            refine ⟨rfl, ((seg re (i + 1) jj).getD 0 Nd.zero).op == 2, ?_⟩
            rw [hsg, row_dup hd' (atomP_hs ha) hat hr1 hr2]
            rw [List.length_append, ← Nat.add_assoc]
        · obtain ⟨rfl, hat⟩ := atom_ok hk HW (first := n == 0) hel hn0 hp hd
          refine ⟨rfl, ((seg re i jj).getD 0 Nd.zero).op == 2, ?_⟩
          rw [row_one hd hs hat (by rw [Bool.true_and]; exact hrest)]
theorem parts_ok {k : Nat} (hk : k ≤ 64) (HW : ∀ k', k = k' + 1 → WOK ere re L wh k') {F : Nat} : ∀ (m i : Nat) (en : List Bool) (j : Nat) (en' : List Bool) (first : Bool) (s : List Nat) (jj p : Nat) (rest : List Mk) (f : Nat) (all : List Nd) (n : Nat) (lead : Bool),
    en.length ≤ 255 → kidsN (nodeN re F (64 - k)) m i en = some (j, en') → partsP ere re wh m first i = some (s, jj) → L.drop p = s.map mk ++ rest → Fin' ere (k == 64) rest → m < f → first = (n == 0) →
    jj = j ∧ rowL ere (k == 64) L (groupL ere L k) f all n lead ⟨p, en⟩ = .ok (n + m, all ++ seg re i j) ⟨p + s.length, en'⟩
  | 0, i, en, j, en', first, s, jj, p, rest, f, all, n, lead, _, hn, hp, hd, hfin, hf, _ => by
    simp only [kidsN, partsP, Option.some.injEq, Prod.mk.injEq] at hn hp
    obtain ⟨rfl, rfl⟩ := hn
    obtain ⟨rfl, rfl⟩ := hp
    obtain ⟨f, rfl⟩ : ∃ k, f = k + 1 := ⟨f - 1, by omega⟩
    simp only [List.map_nil, List.nil_append] at hd
    refine ⟨rfl, ?_⟩
    rw [row_fin (by simp only; rw [hd]; exact hfin), seg_nil, List.append_nil]
    rfl
  | m + 1, i, en, j, en', first, s, jj, p, rest, f, all, n, lead, hel, hn, hp, hd, hfin, hf, hfi => by
    obtain ⟨f, rfl⟩ : ∃ k, f = k + 1 := ⟨f - 1, by omega⟩
    rw [kidsN] at hn
    split at hn
    · cases hn
    rename_i a e1 h1
    rw [partsP] at hp
    split at hp
    · cases hp
    rename_i s1 j1 h2
    split at hp
    · cases hp
    rename_i t e h3
    cases hp
    have hd' := hd
    rw [List.map_append, List.append_assoc] at hd'
    have hrep : repL ere (t.map mk ++ rest) = false := by
      cases m with
      | zero =>
        simp only [partsP, Option.some.injEq, Prod.mk.injEq] at h3
        rw [← h3.1]
        exact hfin.rep
      | succ m => exact ((partsP_hs h3).safe rest).1
    obtain ⟨rfl, lead', hr⟩ := part_ok hk HW (f := f) (all := all) (lead := lead) hel h1 h2 hd' hrep (by
      intro hm
      have hm0 : m = 0 := by simpa using hm
      subst hm0
      simp only [partsP, Option.some.injEq, Prod.mk.injEq] at h3
      rw [← h3.1]
      exact hfin) hfi
    have d1 := drop_add hd'
    obtain ⟨rfl, hr2⟩ := parts_ok hk HW m j1 e1 j en' false t jj (p + s1.length) rest f (all ++ seg re i j1) (n + 1) lead' (node_el _ _ _ _ _ _ h1 hel) hn h3 d1 hfin (by omega) (by simp)
    refine ⟨rfl, ?_⟩
    have := node_lt h1
    have := kids_le _ _ _ _ _ hn
    rw [hr, hr2, List.append_assoc, seg_append (by omega) (by omega), List.length_append, show n + 1 + m = n + (m + 1) by omega, Nat.add_assoc p]
theorem row_ok {k : Nat} (hk : k ≤ 64) (HW : ∀ k', k = k' + 1 → WOK ere re L wh k') {F i : Nat} {en : List Bool} {j : Nat} {en' : List Bool} {s : List Nat} {jj p : Nat} {rest : List Mk} (hel : en.length ≤ 255)
    (hn : nodeN re F (64 - k) i en = some (j, en')) (hp : rowP ere re wh i = some (s, jj)) (hd : L.drop p = s.map mk ++ rest) (hfin : Fin' ere (k == 64) rest) :
    jj = j ∧ ∃ m l, rowS ere (k == 64) L (groupL ere L k) ⟨p, en⟩ = .ok (m, l) ⟨p + s.length, en'⟩ ∧ 1 ≤ m ∧ (if m = 1 then l else catN m :: l) = seg re i j := by
  have hs := rowP_hs hp
  have hpos := hs.pos
  have hlen := len_drop hd
  simp only [List.length_append, List.length_map] at hlen
  have hn0 := hn
  cases F with
  | zero => simp [nodeN] at hn
  | succ F =>
    have hij := node_lt hn
    obtain ⟨x, hx⟩ := nodeN_e hn
    have hsg := seg_cons hx.hx hij.1
    unfold rowP at hp
    rw [hx.hx] at hp
    simp only at hp
    split at hp
    · obtain ⟨rfl, lead', hr⟩ := part_ok hk HW (f := L.length) (all := []) (n := 0) (lead := true) hel hn0 hp hd hfin.rep (fun _ => hfin) rfl
      refine ⟨rfl, 1, seg re i jj, ?_, Nat.le_refl _, by rw [if_pos rfl]⟩
      rw [rowS, hr]
      obtain ⟨q, hq⟩ : ∃ q, L.length = q + 1 := ⟨L.length - 1, by omega⟩
      rw [hq, row_fin (by simp only; rw [drop_add hd]; exact hfin), List.nil_append]
    · rename_i h4
      have h4' : x.op = 4 := by omega
      split at hp
      · cases hp
      · rename_i hk0
        have hkid := hx.kids (.inl h4')
        have hm := partsP_len _ hp
        obtain ⟨rfl, hr⟩ := parts_ok hk HW x.kids.toNat (i + 1) en j en' true s jj p rest (L.length + 1) [] 0 true hel hkid hp hd hfin (by omega) rfl
        obtain ⟨c, hc, hc1⟩ := good_cat hx.good h4'
        have hxk : x.kids.toNat = c := by rw [hc]; rfl
        have hc2 : 2 ≤ c := by
          have : ¬ x.kids ≤ 0 := hk0
          rw [hc] at this
          simp only [catN] at this
          omega
        refine ⟨rfl, c, seg re (i + 1) jj, ?_, by omega, ?_⟩
        · rw [rowS, hr, hxk, Nat.zero_add, List.nil_append]
        · rw [if_neg hc1, hsg, hc]
theorem rows_ok {k : Nat} (hk : k ≤ 64) (HW : ∀ k', k = k' + 1 → WOK ere re L wh k') {F : Nat} : ∀ (m i : Nat) (en : List Bool) (j : Nat) (en' : List Bool) (s : List Nat) (jj p : Nat) (rest : List Mk) (f : Nat) (all : List Nd) (n : Nat),
    en.length ≤ 255 → kidsN (nodeN re F (64 - k)) (m + 1) i en = some (j, en') → rowsP ere re wh (m + 1) true i = some (s, jj) → L.drop p = s.map mk ++ rest → Cl ere k rest → m < f → (1 ≤ m → ere = true) →
    jj = j ∧ sidesL ere L (rowS ere (k == 64) L (groupL ere L k)) f all n ⟨p, en⟩ = .ok (if 1 < n + m + 1 then altN (n + m + 1) :: (all ++ seg re i j) else all ++ seg re i j) ⟨p + s.length, en'⟩
  | m, i, en, j, en', s, jj, p, rest, f, all, n, hel, hn, hp, hd, hcl, hf, he => by
    obtain ⟨f, rfl⟩ : ∃ k, f = k + 1 := ⟨f - 1, by omega⟩
    rw [kidsN] at hn
    split at hn
    · cases hn
    rename_i a e1 h1
    rw [rowsP] at hp
    split at hp
    · cases hp
    rename_i s1 j1 h2
    split at hp
    · cases hp
    rename_i t e h3
    simp only [if_true, List.nil_append, Option.some.injEq, Prod.mk.injEq] at hp
    obtain ⟨rfl, rfl⟩ := hp
    have hd' := hd
    rw [List.map_append, List.append_assoc] at hd'
    have d1 := drop_add hd'
    have hlt := node_lt h1
    have hle := kids_le _ _ _ _ _ hn
    cases m with
    | zero =>
      simp only [rowsP, Option.some.injEq, Prod.mk.injEq] at h3
      obtain ⟨rfl, rfl⟩ := h3
      simp only [kidsN, Option.some.injEq, Prod.mk.injEq] at hn
      obtain ⟨rfl, rfl⟩ := hn
      simp only [List.map_nil, List.nil_append] at hd' d1
      obtain ⟨rfl, m, l, hr, hm, hl⟩ := row_ok hk HW hel h1 h2 hd' hcl.fin
      refine ⟨rfl, ?_⟩
      rw [sidesL, hr]
      simp only
      rw [show seesAt L (p + s1.length) [124] = seesL (L.drop (p + s1.length)) [124] from rfl, d1, hcl.bar, beq_eq_false_iff_ne.2 (show m ≠ 0 by omega), Bool.false_and, if_neg (by decide), Bool.not_false, if_pos rfl, hl, List.append_nil]
    | succ m =>
      have he' := he (by omega)
      obtain ⟨t', rfl, h4⟩ := rowsP_bar h3
      obtain ⟨rfl, q, l, hr, hm, hl⟩ := row_ok hk HW hel h1 h2 hd' (.inr (.inl (by
        rw [he', Bool.true_and]
        simp only [List.map_cons, List.cons_append, seesMk1]
        rfl)))
      simp only [List.map_cons, List.cons_append] at d1
      obtain ⟨_, _, d2⟩ := mark_drop d1
      obtain ⟨rfl, hr2⟩ := rows_ok hk HW m j1 e1 j en' t' e (p + s1.length + 1) rest f (all ++ seg re i j1) (n + 1) (node_el _ _ _ _ _ _ h1 hel) hn h4 d2 hcl (by omega) (fun _ => he')
      refine ⟨rfl, ?_⟩
      rw [sidesL, hr]
      simp only
      rw [show seesAt L (p + s1.length) [124] = seesL (L.drop (p + s1.length)) [124] from rfl, d1, seesMk1, he', beq_eq_false_iff_ne.2 (show q ≠ 0 by omega), Bool.false_and, if_neg (by decide), beq_self_eq_true, Bool.and_self, Bool.not_true, if_neg (by decide), hl]
      rw [he'] at hr2
      rw [hr2, List.append_assoc, seg_append (by omega) (by omega)]
      simp only [List.length_append, List.length_cons]
      rw [show n + 1 + m + 1 = n + (m + 1) + 1 by omega, show p + s1.length + 1 + t'.length = p + (s1.length + (t'.length + 1)) by omega]
theorem whole_ok : ∀ (f k : Nat), k ≤ 64 → WOK ere re L (wholeP ere re f) k
  | 0, k, _ => fun F i en j en' s jj p rest _ _ h => by simp [wholeP] at h
  | f + 1, k, hk => fun F i en j en' s jj p rest hel hn hw hd hcl => by
    have HW : ∀ k', k = k' + 1 → WOK ere re L (wholeP ere re f) k' := fun k' h => whole_ok f k' (by omega)
    have hlen := len_drop hd
    simp only [List.length_append, List.length_map] at hlen
    have hn0 := hn
    cases F with
    | zero => simp [nodeN] at hn
    | succ F =>
      have hij := node_lt hn
      obtain ⟨x, hx⟩ := nodeN_e hn
      have hsg := seg_cons hx.hx hij.1
      rw [wholeP, hx.hx] at hw
      simp only at hw
      split at hw
      · have h1 : kidsN (nodeN re (F + 1) (64 - k)) 1 i en = some (j, en') := by simp only [kidsN, hn0]
        have h2 : rowsP ere re (wholeP ere re f) 1 true i = some (s, jj) := by simp only [rowsP, hw, if_true, List.nil_append, List.append_nil]
        have hm := rowsP_len _ h2
        obtain ⟨rfl, hr⟩ := rows_ok hk HW 0 i en j en' s jj p rest (L.length + 1) [] 0 hel h1 h2 hd hcl (by omega) (by omega)
        refine ⟨rfl, ?_⟩
        rw [sidesK, sidesS, hr, if_neg (by omega), List.nil_append]
      · rename_i h5
        have h5' : x.op = 5 := by omega
        split at hw
        · rename_i he
          have hkid := hx.kids (.inr h5')
          obtain ⟨c, hc, hc2⟩ := good_alt hx.good h5'
          have hxk : x.kids.toNat = c := by rw [hc]; rfl
          rw [hxk] at hkid hw
          obtain ⟨m, rfl⟩ : ∃ m, c = m + 1 := ⟨c - 1, by omega⟩
          have hm := rowsP_len _ hw
          obtain ⟨rfl, hr⟩ := rows_ok hk HW m (i + 1) en j en' s jj p rest (L.length + 1) [] 0 hel hkid hw hd hcl (by omega) (fun _ => he)
          refine ⟨rfl, ?_⟩
          rw [sidesK, sidesS, hr, if_pos (by omega), List.nil_append, hsg, hc, Nat.zero_add]
        · cases hw
/-- Bytes, no line end among them. -/
def Okb (s : List Nat) : Prop := ∀ x ∈ s, x ≠ 10 ∧ x < 256
theorem Okb.app {s t : List Nat} (hs : Okb s) (ht : Okb t) : Okb (s ++ t) := fun x hx => (List.mem_append.1 hx).elim (hs x) (ht x)
theorem Okb.nil : Okb [] := fun x hx => by cases hx
theorem Okb.cons {b : Nat} {s : List Nat} (h1 : b ≠ 10) (h2 : b < 256) (hs : Okb s) : Okb (b :: s) := fun x hx => by
  rcases List.mem_cons.1 hx with rfl | h
  · exact ⟨h1, h2⟩
  · exact hs x h
theorem byteB_ok {b : Nat} (hb : b < 256) : Okb (byteB ere b) := by
  unfold byteB
  split
  · exact .cons (by decide) (by decide) (.cons (by decide) (by decide) .nil)
  · split
    · exact .cons (by decide) (by decide) (.cons (by assumption) hb .nil)
    · exact .cons (by assumption) hb .nil
theorem setB_ok (c : Cls) : Okb (setB ere c) := by
  unfold setB
  split
  · exact .cons (by decide) (by decide) .nil
  · split
    · rename_i b hb
      exact byteB_ok (els_lt (c := c) (by rw [hb]; exact List.mem_cons_self ..))
    · exact fun x hx => ⟨fun e => brackB_ten c (e ▸ hx), brackB_lt c x hx⟩
theorem signB_ok {c : Nat} (h : c ≠ 10) (h2 : c < 256) : Okb (signB ere c) := by
  cases ere with
  | true => exact .cons h h2 .nil
  | false => exact .cons (by decide) (by decide) (.cons h h2 .nil)
theorem itoB_ok (m : Int) : Okb (itoB m) := by
  unfold itoB
  split
  · exact .cons (by decide) (by decide) fun x hx => by have := digB_digit _ _ hx; omega
  · exact fun x hx => by have := digB_digit _ _ hx; omega
theorem dupB_ok (x : Nd) : Okb (dupB ere x) := by
  unfold dupB
  split
  · exact .cons (by decide) (by decide) .nil
  · split
    · exact .cons (by decide) (by decide) .nil
    · split
      · exact .cons (by decide) (by decide) .nil
      · refine (signB_ok (by decide) (by decide)).app ((itoB_ok _).app (Okb.app ?_ (signB_ok (by decide) (by decide))))
        split
        · exact .nil
        · refine .cons (by decide) (by decide) ?_
          split
          · exact itoB_ok _
          · exact .nil
section
variable (hw : ∀ i s j, wh i = some (s, j) → Okb s)
include hw
theorem atomP_okb {i : Nat} {s : List Nat} {j : Nat} (h : atomP ere re wh i = some (s, j)) : Okb s := by
  unfold atomP at h
  split at h
  · cases h
  · split at h
    · cases h; exact setB_ok _
    · split at h
      · split at h
        · cases h
        · split at h
          · cases h
            exact (signB_ok (by decide) (by decide)).app (signB_ok (by decide) (by decide))
          · split at h
            · cases h
            · rename_i s2 j2 h2
              cases h
              exact (signB_ok (by decide) (by decide)).app ((hw _ _ _ h2).app (signB_ok (by decide) (by decide)))
      · split at h
        · split at h
          · cases h
          · cases h
            exact .cons (by decide) (by decide) (itoB_ok _)
        · cases h
theorem partP_okb {first last : Bool} {i : Nat} {s : List Nat} {j : Nat} (h : partP ere re wh first last i = some (s, j)) : Okb s := by
  unfold partP at h
  split at h
  · cases h
  · split at h
    · split at h
      · cases h; exact .cons (by decide) (by decide) .nil
      · cases h
    · split at h
      · split at h
        · cases h; exact .cons (by decide) (by decide) .nil
        · cases h
      · split at h
        · split at h
          · cases h
          · rename_i h1
            cases h
            exact (atomP_okb hw h1).app (dupB_ok _)
        · exact atomP_okb hw h
theorem partsP_okb : ∀ (m : Nat) {first : Bool} {i : Nat} {s : List Nat} {j : Nat}, partsP ere re wh m first i = some (s, j) → Okb s
  | 0, _, _, _, _, h => by
    simp only [partsP, Option.some.injEq, Prod.mk.injEq] at h
    rw [← h.1]
    exact .nil
  | m + 1, first, i, s, j, h => by
    rw [partsP] at h
    split at h
    · cases h
    · rename_i h1
      split at h
      · cases h
      · rename_i h2
        cases h
        exact (partP_okb hw h1).app (partsP_okb m h2)
theorem rowP_okb {i : Nat} {s : List Nat} {j : Nat} (h : rowP ere re wh i = some (s, j)) : Okb s := by
  unfold rowP at h
  split at h
  · cases h
  · split at h
    · exact partP_okb hw h
    · split at h
      · cases h
      · exact partsP_okb hw _ h
theorem rowsP_okb : ∀ (m : Nat) {first : Bool} {i : Nat} {s : List Nat} {j : Nat}, rowsP ere re wh m first i = some (s, j) → Okb s
  | 0, _, _, _, _, h => by
    simp only [rowsP, Option.some.injEq, Prod.mk.injEq] at h
    rw [← h.1]
    exact .nil
  | m + 1, first, i, s, j, h => by
    rw [rowsP] at h
    split at h
    · cases h
    · rename_i h1
      split at h
      · cases h
      · rename_i h2
        cases h
        refine Okb.app ?_ ((rowP_okb hw h1).app (rowsP_okb m h2))
        split
        · exact .nil
        · exact .cons (by decide) (by decide) .nil
end
end
theorem wholeP_okb {ere : Bool} {re : List Nd} : ∀ (f i : Nat) (s : List Nat) (j : Nat), wholeP ere re f i = some (s, j) → Okb s
  | 0, _, _, _, h => by simp [wholeP] at h
  | f + 1, i, s, j, h => by
    rw [wholeP] at h
    split at h
    · cases h
    · split at h
      · exact rowP_okb (wholeP_okb f) h
      · split at h
        · exact rowsP_okb (wholeP_okb f) _ h
        · cases h
theorem spellN_okb {ere : Bool} {re : List Nd} {s : List Nat} (h : spellN ere re = some s) : Okb s ∧ s.length ≤ 4096 := by
  unfold spellN at h
  split at h
  · cases h
  · rename_i h1
    split at h
    · cases h
      exact ⟨wholeP_okb _ _ _ _ h1, by assumption⟩
    · cases h
/-- What is spelled of a tree is read as the tree. -/
theorem spell_parse {ere : Bool} {re : List Nd} {s : List Nat} (hs : shapedN re = true) (h : spellN ere re = some s) : parseL ere (s.map mk) = .ok re := by
  unfold spellN at h
  split at h
  · cases h
  rename_i s0 j0 hw
  split at h
  · rename_i hlen
    cases h
    unfold shapedN at hs
    split at hs
    · cases hs
    rename_i j en' hn
    simp only [Bool.and_eq_true, decide_eq_true_eq] at hs
    obtain ⟨rfl, hwt⟩ := hs
    have hd : (s.map mk).drop 0 = s.map mk ++ [] := by simp
    obtain ⟨rfl, hr⟩ := whole_ok (L := s.map mk) 66 64 (Nat.le_refl _) 260 0 [] _ en' s j0 0 [] (by simp) hn hw hd (by unfold Cl; rw [if_pos rfl])
    have hpos : 1 ≤ s.length := by
      rw [show (66 : Nat) = 65 + 1 from rfl, wholeP] at hw
      split at hw
      · cases hw
      · rename_i x hx
        split at hw
        · exact (rowP_hs hw).pos
        · split at hw
          · have := rowsP_len _ hw
            have hij := node_lt hn
            obtain ⟨y, hy⟩ := nodeN_e (f := 259) hn
            obtain rfl : y = x := Option.some.inj (hy.hx.symm.trans hx)
            obtain ⟨c, hc, hc2⟩ := good_alt hy.good (by omega)
            rw [hc] at this
            simp only [altN] at this
            omega
          · cases hw
    rw [seg_all] at hr
    unfold parseL
    rw [List.length_map, if_neg (by omega), if_neg (by omega), hr]
    simp only
    split at hwt
    · cases hwt
    · rename_i wt wn hwe
      rw [hwe]
      simp only [decide_eq_true_eq] at hwt
      simp only
      rw [if_neg (by omega)]
  · cases h
end Go.Proofs.YtbdjcmhfcdamiaaDoor

/- Plain law: what was read of a short list of marks can be spelled. No program in sight. No condition. -/
namespace Go.Proofs.YtbdjcmhfcdamiaaDoor

/-! ### Runs of a bracket that was read -/
section
variable {L : List Mk}
theorem mark_lt (hu : ∀ i, i < L.length → (markAt L i).b < 256) (i : Nat) : (markAt L i).b < 256 := by
  by_cases h : i < L.length
  · exact hu i h
  · rw [markAt, List.getD_eq_getElem?_getD, List.getElem?_eq_none (by omega)]
    show 0 < 256
    decide
theorem nameL_starts {at0 b0 : Nat} : ∀ (n i : Nat) (s : List Nat) (a : Th), nameL L at0 b0 n i s = (a, none) → a.set.starts ≤ 4 ∧ i + 2 ≤ a.next
  | 0, i, s, a, h => by simp [nameL] at h
  | n + 1, i, s, a, h => by
    unfold nameL at h
    split at h
    · split at h
      · simp at h
      · rename_i c hc
        cases h
        exact ⟨starts_named hc, Nat.le_refl _⟩
    · have := nameL_starts n _ _ _ h
      omega
theorem thing_starts (hu : ∀ i, i < L.length → (markAt L i).b < 256) {at0 n : Nat} {a : Th} (h : thingTh L at0 n = (a, none)) : a.set.starts + n ≤ a.next ∧ a.b < 256 := by
  have hb := (thingTh_next h hu).2.2
  refine ⟨?_, hb⟩
  unfold thingTh at h
  split at h
  · simp at h
  · split at h
    · have := nameL_starts _ _ _ _ h
      omega
    · split at h
      · unfold enclosedTh at h
        repeat' split at h
        all_goals first | (simp at h; done) | skip
        cases h
        have := starts_ofC (mark_lt hu (n + 2))
        simp only
        omega
      · cases h
        have := starts_ofC (mark_lt hu n)
        simp only
        omega
theorem item_starts (hu : ∀ i, i < L.length → (markAt L i).b < 256) {at0 n : Nat} {first : Bool} {a : Th} (h : itemTh L at0 n first = (a, none)) : a.set.starts + n ≤ a.next := by
  unfold itemTh at h
  split at h
  · simp at h
  · rename_i x hx
    have h1 := thing_starts hu hx
    split at h
    · split at h <;> simp at h
    · split at h
      · cases h
        exact h1.1
      · split at h
        · simp at h
        · split at h
          · simp at h
          · rename_i y hy
            have h2 := thing_starts hu hy
            split at h
            · simp at h
            · cases h
              have := starts_rangeC (lo := x.b) h2.2
              simp only
              omega
theorem items_starts (hu : ∀ i, i < L.length → (markAt L i).b < 256) {at0 : Nat} : ∀ (n : Nat) (c : Cls) (i : Nat) (first : Bool) (r : Cls × Nat), itemsL L at0 n c i first = .ok r → r.1.starts + i ≤ c.starts + r.2
  | 0, c, i, first, r, h => by simp [itemsL] at h
  | n + 1, c, i, first, r, h => by
    unfold itemsL at h
    split at h
    · cases h
      exact Nat.le_refl _
    · split at h
      · cases h
      · rename_i x hx
        have h1 := item_starts hu hx
        have h2 := items_starts hu n _ _ _ _ h
        have h3 := starts_orC c x.set
        omega
theorem items_first (hu : ∀ i, i < L.length → (markAt L i).b < 256) {at0 n : Nat} {c : Cls} {i : Nat} {r : Cls × Nat} (h : itemsL L at0 n c i true = .ok r) : i < r.2 := by
  cases n with
  | zero => simp [itemsL] at h
  | succ n =>
    unfold itemsL at h
    rw [Bool.not_true, Bool.false_and, if_neg Bool.false_ne_true] at h
    split at h
    · cases h
    · rename_i x hx
      have h1 := (itemTh_next hx hu).1
      have h2 := (itemsL_next hu _ _ _ _ _ h).1
      omega
theorem bracket_starts (hu : ∀ i, i < L.length → (markAt L i).b < 256) {at0 : Nat} {r : Cls × Nat} (h : bracketL L at0 = .ok r) : r.1.side.starts + at0 + 1 ≤ r.2 ∧ at0 + 3 ≤ r.2 := by
  unfold bracketL at h
  simp only at h
  split at h
  · cases h
  · rename_i c i hx
    have h1 := items_starts hu _ _ _ _ _ hx
    have h2 := items_first hu hx
    rw [starts_zero] at h1
    have hi : at0 + 1 ≤ (if signAt L (at0 + 1) 94 = true then at0 + 2 else at0 + 1) := by split <;> omega
    generalize (if signAt L (at0 + 1) 94 = true then at0 + 2 else at0 + 1) = i0 at h1 h2 hi
    cases h
    simp only at h1 h2 ⊢
    have hs : (if signAt L (at0 + 1) 94 = true then c.not else c).side.starts ≤ c.starts + 1 := by
      split
      · unfold Cls.side
        split
        · rw [not_not]; omega
        · exact starts_notC c
      · exact side_starts c
    exact ⟨by omega, by omega⟩
end
/-! ### Lengths -/
theorem els_one {b : Nat} (hb : b < 256) : (Cls.of [b]).els = [b] := by
  have hm : ∀ x, x ∈ (Cls.of [b]).els ↔ x = b := fun x => by
    rw [mem_els]
    constructor
    · rintro ⟨h1, h2⟩
      rw [has_of (by simpa using hb) h1] at h2
      simpa using h2
    · rintro rfl
      refine ⟨hb, ?_⟩
      rw [has_of (by simpa using hb) hb]
      simp
  have hs := els_sorted (Cls.of [b])
  generalize (Cls.of [b]).els = l at hm hs
  cases l with
  | nil => have := (hm b).2 rfl; simp at this
  | cons x l =>
    have hx := (hm x).1 (List.mem_cons_self ..)
    cases l with
    | nil => rw [hx]
    | cons y l =>
      have hy := (hm y).1 (by simp)
      rw [List.pairwise_cons] at hs
      have := hs.1 y (List.mem_cons_self ..)
      omega
theorem byteB_len (ere : Bool) (b : Nat) : (byteB ere b).length ≤ 2 := by
  unfold byteB
  split
  · simp
  · split <;> simp
theorem setB_one (ere : Bool) {b : Nat} (hb : b < 256) : (setB ere (Cls.of [b])).length ≤ 2 := by
  unfold setB
  rw [els_one hb]
  rw [if_neg (by simp)]
  exact byteB_len ere b
theorem setB_len (ere : Bool) (c : Cls) : (setB ere c).length ≤ 3 + 11 * c.side.starts := by
  unfold setB
  split
  · simp only [List.length_cons, List.length_nil]
    omega
  · split
    · have := byteB_len ere (by assumption)
      omega
    · exact brackB_len c
theorem setB_all (ere : Bool) : setB ere (Cls.range 0 255) = [46] := by
  unfold setB
  rw [if_pos]
  show (Cls.range 0 255).els.length = 256
  decide +kernel
theorem itoB_len3 {m : Int} (h0 : 0 ≤ m) (h1 : m ≤ 255) : (itoB m).length ≤ 3 := by
  unfold itoB
  rw [if_neg (by omega)]
  exact digB_len20 2 m.toNat (by omega)
theorem signB_le2 (ere : Bool) (c : Nat) : (signB ere c).length ≤ 2 := by cases ere <;> simp [signB]
theorem dupB_len (ere : Bool) {x : Nd} (hx : goodN x = true) (ho : x.op = 6) : (dupB ere x).length ≤ 11 := by
  obtain ⟨_, h1, h2, h3⟩ := good_rep hx ho
  unfold dupB
  split
  · simp
  · split
    · simp
    · split
      · simp
      · have a1 := signB_le2 ere 123
        have a2 := signB_le2 ere 125
        have a3 := itoB_len3 h1 h2
        have a4 : (if x.max = x.min then ([] : List Nat) else 44 :: (if 0 ≤ x.max then itoB x.max else [])).length ≤ 4 := by
          split
          · simp
          · rw [List.length_cons]
            split
            · have := itoB_len3 (m := x.max) (by omega) (by omega)
              omega
            · simp
        simp only [List.length_append]
        omega
/-! ### What can be spelled, wherever it stands -/
def PA (ere : Bool) (k : Nat) (l : List Nd) (n : Nat) : Prop := ∀ pre post f, k ≤ f → ∃ s, atomP ere (pre ++ l ++ post) (wholeP ere (pre ++ l ++ post) f) pre.length = some (s, pre.length + l.length) ∧ s.length ≤ n
def PP (ere first last : Bool) (k : Nat) (l : List Nd) (n : Nat) : Prop := ∀ pre post f, k ≤ f → ∃ s, partP ere (pre ++ l ++ post) (wholeP ere (pre ++ l ++ post) f) first last pre.length = some (s, pre.length + l.length) ∧ s.length ≤ n
def PS (ere first : Bool) (m k : Nat) (l : List Nd) (n : Nat) : Prop := ∀ pre post f, k ≤ f → ∃ s, partsP ere (pre ++ l ++ post) (wholeP ere (pre ++ l ++ post) f) m first pre.length = some (s, pre.length + l.length) ∧ s.length ≤ n
def PRow (ere : Bool) (k : Nat) (l : List Nd) (n : Nat) : Prop := ∀ pre post f, k ≤ f → ∃ s, rowP ere (pre ++ l ++ post) (wholeP ere (pre ++ l ++ post) f) pre.length = some (s, pre.length + l.length) ∧ s.length ≤ n
def PRS (ere : Bool) (m k : Nat) (l : List Nd) (n : Nat) : Prop := ∀ pre post f, k ≤ f → ∃ s, rowsP ere (pre ++ l ++ post) (wholeP ere (pre ++ l ++ post) f) m true pre.length = some (s, pre.length + l.length) ∧ s.length ≤ n
def PW (ere : Bool) (k : Nat) (l : List Nd) (n : Nat) : Prop := ∀ pre post f, k < f → ∃ s, wholeP ere (pre ++ l ++ post) f pre.length = some (s, pre.length + l.length) ∧ s.length ≤ n
theorem atomP_op {ere : Bool} {re : List Nd} {wh : Nat → Option (List Nat × Nat)} {i : Nat} {r : List Nat × Nat} (h : atomP ere re wh i = some r) : ∃ x, re[i]? = some x ∧ (x.op = 1 ∨ x.op = 7 ∨ x.op = 8) := by
  unfold atomP at h
  split at h
  · cases h
  · rename_i x hx
    refine ⟨x, hx, ?_⟩
    split at h
    · exact .inl (by assumption)
    · split at h
      · exact .inr (.inl (by assumption))
      · split at h
        · exact .inr (.inr (by assumption))
        · cases h
theorem partP_op {ere : Bool} {re : List Nd} {wh : Nat → Option (List Nat × Nat)} {first last : Bool} {i : Nat} {r : List Nat × Nat} (h : partP ere re wh first last i = some r) : ∃ x, re[i]? = some x ∧ x.op ≠ 4 ∧ x.op ≠ 5 := by
  have h0 := h
  unfold partP at h
  split at h
  · cases h
  · rename_i x hx
    refine ⟨x, hx, ?_⟩
    split at h
    · omega
    · split at h
      · omega
      · split at h
        · omega
        · obtain ⟨y, hy, ho⟩ := atomP_op h
          obtain rfl : y = x := Option.some.inj (hy.symm.trans hx)
          omega
theorem rowP_op {ere : Bool} {re : List Nd} {wh : Nat → Option (List Nat × Nat)} {i : Nat} {r : List Nat × Nat} (h : rowP ere re wh i = some r) : ∃ x, re[i]? = some x ∧ x.op ≠ 5 ∧ ¬ (x.op = 4 ∧ x.kids = 0) := by
  unfold rowP at h
  split at h
  · cases h
  · rename_i x hx
    refine ⟨x, hx, ?_⟩
    split at h
    · rename_i h4
      obtain ⟨y, hy, ho⟩ := partP_op h
      obtain rfl : y = x := Option.some.inj (hy.symm.trans hx)
      exact ⟨ho.2, fun h => h4 h.1⟩
    · split at h
      · cases h
      · rename_i h4 hk
        exact ⟨by omega, fun h => hk (by omega)⟩
section
variable {ere : Bool} {k : Nat}
theorem PA.mono {l : List Nd} {n m : Nat} (h : PA ere k l n) (hn : n ≤ m) : PA ere k l m := fun pre post f hf => by
  obtain ⟨s, h1, h2⟩ := h pre post f hf
  exact ⟨s, h1, by omega⟩
theorem PP.mono {first last : Bool} {l : List Nd} {n m : Nat} (h : PP ere first last k l n) (hn : n ≤ m) : PP ere first last k l m := fun pre post f hf => by
  obtain ⟨s, h1, h2⟩ := h pre post f hf
  exact ⟨s, h1, by omega⟩
theorem PA.set (c : Cls) : PA ere k [setN c] (setB ere c).length := fun pre post f _ => by
  refine ⟨setB ere c, ?_, Nat.le_refl _⟩
  unfold atomP
  rw [get_mid]
  rfl
theorem PA.ref {n : Nat} (he : ere = false) (h9 : n ≤ 9) : PA ere k [refN n] 2 := fun pre post f _ => by
  refine ⟨92 :: itoB (n : Int), ?_, ?_⟩
  · unfold atomP
    rw [get_mid]
    simp only
    rw [if_neg (by show ¬ (8 : Int) = 1; decide), if_neg (by show ¬ (8 : Int) = 7; decide), if_pos (by rfl), if_neg]
    · rfl
    · rw [he]
      simp only [refN, Bool.false_eq_true, false_or]
      omega
  · rw [itoB_nat, digB_small (by omega)]
    simp
theorem PA.group {l : List Nd} {n m : Nat} (h : PW ere k l n ∨ l = [catN 0]) : PA ere (k + 1) (groupN m :: l) (n + 4) := fun pre post f hf => by
  have a1 := signB_le2 ere 40
  have a2 := signB_le2 ere 41
  have hg : (pre ++ (groupN m :: l) ++ post)[pre.length]? = some (groupN m) := get_mid ..
  unfold atomP
  rw [hg]
  simp only
  rw [if_neg (by show ¬ (7 : Int) = 1; decide), if_pos (by rfl)]
  rcases h with h | rfl
  · obtain ⟨s, h1, h2⟩ := h (pre ++ [groupN m]) post f (by omega)
    rw [show pre ++ [groupN m] ++ l ++ post = pre ++ (groupN m :: l) ++ post by simp, show (pre ++ [groupN m]).length = pre.length + 1 by simp] at h1
    obtain ⟨x, hx, hno⟩ : ∃ x, (pre ++ (groupN m :: l) ++ post)[pre.length + 1]? = some x ∧ ¬ (x.op = 4 ∧ x.kids = 0) := by
      have h3 := h1
      cases f with
      | zero => simp [wholeP] at h3
      | succ f =>
        rw [wholeP] at h3
        split at h3
        · cases h3
        · rename_i x hx
          refine ⟨x, hx, ?_⟩
          split at h3
          · obtain ⟨y, hy, _, ho⟩ := rowP_op h3
            obtain rfl : y = x := Option.some.inj (hy.symm.trans hx)
            exact ho
          · omega
    rw [hx]
    simp only
    rw [if_neg hno, h1]
    refine ⟨signB ere 40 ++ (s ++ signB ere 41), ?_, ?_⟩
    · simp only [List.length_cons, Nat.add_assoc, Nat.add_comm 1]
    · simp only [List.length_append]
      omega
  · have hx : (pre ++ [groupN m, catN 0] ++ post)[pre.length + 1]? = some (catN 0) := by
      simp
    rw [hx]
    simp only
    rw [if_pos ⟨rfl, rfl⟩]
    refine ⟨_, rfl, ?_⟩
    simp only [List.length_append]
    omega
theorem PA.part {l : List Nd} {n : Nat} (h : PA ere k l n) (first last : Bool) : PP ere first last k l n := fun pre post f hf => by
  obtain ⟨s, h1, h2⟩ := h pre post f hf
  refine ⟨s, ?_, h2⟩
  obtain ⟨x, hx, ho⟩ := atomP_op h1
  unfold partP
  rw [hx]
  simp only
  rw [if_neg (by omega), if_neg (by omega), if_neg (by omega), h1]
theorem PA.dup {l : List Nd} {n : Nat} {d : Nd} (h : PA ere k l n) (hd : goodN d = true) (ho : d.op = 6) (first last : Bool) : PP ere first last k (d :: l) (n + 11) := fun pre post f hf => by
  obtain ⟨s, h1, h2⟩ := h (pre ++ [d]) post f hf
  rw [show pre ++ [d] ++ l ++ post = pre ++ (d :: l) ++ post by simp, show (pre ++ [d]).length = pre.length + 1 by simp] at h1
  have hl := dupB_len ere hd ho
  refine ⟨s ++ dupB ere d, ?_, by rw [List.length_append]; omega⟩
  unfold partP
  rw [get_mid]
  simp only
  rw [if_neg (by omega), if_neg (by omega), if_pos ho, h1]
  simp only [List.length_cons]
  rw [Nat.add_assoc, Nat.add_comm 1]
theorem PP.begin {first last : Bool} (h : ere = true ∨ first = true) : PP ere first last k [beginN] 1 := fun pre post f _ => by
  refine ⟨[94], ?_, by simp⟩
  unfold partP
  rw [get_mid]
  simp only
  rw [if_pos (by rfl), if_pos (by simpa using h)]
  rfl
theorem PP.end_ {first last : Bool} (h : ere = true ∨ last = true) : PP ere first last k [endN] 1 := fun pre post f _ => by
  refine ⟨[36], ?_, by simp⟩
  unfold partP
  rw [get_mid]
  simp only
  rw [if_neg (by show ¬ (3 : Int) = 2; decide), if_pos (by rfl), if_pos (by simpa using h)]
  rfl
theorem PS.nil (first : Bool) : PS ere first 0 k [] 0 := fun pre post f _ => ⟨[], by simp [partsP], Nat.le_refl _⟩
theorem PS.cons {first : Bool} {m : Nat} {a l : List Nd} {n1 n2 : Nat} (h1 : PP ere first (m == 0) k a n1) (h2 : PS ere false m k l n2) : PS ere first (m + 1) k (a ++ l) (n1 + n2) := fun pre post f hf => by
  obtain ⟨s, e1, l1⟩ := h1 pre (l ++ post) f hf
  obtain ⟨t, e2, l2⟩ := h2 (pre ++ a) post f hf
  rw [show pre ++ a ++ (l ++ post) = pre ++ (a ++ l) ++ post by simp] at e1
  rw [show pre ++ a ++ l ++ post = pre ++ (a ++ l) ++ post by simp, List.length_append] at e2
  refine ⟨s ++ t, ?_, by rw [List.length_append]; omega⟩
  rw [partsP, e1]
  simp only
  rw [e2]
  simp only [List.length_append, Nat.add_assoc]
theorem PS.row {m : Nat} {l : List Nd} {n : Nat} (h : PS ere true m k l n) (hm : 1 ≤ m) : PRow ere k (if m = 1 then l else catN m :: l) n := by
  by_cases h1 : m = 1
  · subst h1
    rw [if_pos rfl]
    intro pre post f hf
    obtain ⟨s, e1, l1⟩ := h pre post f hf
    have e2 := e1
    simp only [partsP] at e2
    split at e2
    · cases e2
    · rename_i s1 j1 hp
      simp only [List.append_nil] at e2
      obtain ⟨x, hx, h4, _⟩ := partP_op hp
      refine ⟨s, ?_, l1⟩
      unfold rowP
      rw [hx]
      simp only
      rw [if_pos h4]
      rw [← e2]
      exact hp
  · rw [if_neg h1]
    intro pre post f hf
    obtain ⟨s, e1, l1⟩ := h (pre ++ [catN m]) post f hf
    rw [show pre ++ [catN m] ++ l ++ post = pre ++ (catN m :: l) ++ post by simp, show (pre ++ [catN m]).length = pre.length + 1 by simp] at e1
    refine ⟨s, ?_, l1⟩
    unfold rowP
    rw [get_mid]
    simp only
    rw [if_neg (by simp [catN]), if_neg (by simp only [catN]; omega), show (catN m).kids.toNat = m from rfl, e1, List.length_cons, Nat.add_assoc, Nat.add_comm 1]
theorem PRow.one {l : List Nd} {n : Nat} (h : PRow ere k l n) : PRS ere 1 k l n := fun pre post f hf => by
  obtain ⟨s, e1, l1⟩ := h pre post f hf
  refine ⟨s, ?_, l1⟩
  simp only [rowsP, e1, if_true, List.nil_append, List.append_nil]
theorem PRow.cons {m : Nat} {a l : List Nd} {n1 n2 : Nat} (h1 : PRow ere k a n1) (h2 : PRS ere (m + 1) k l n2) : PRS ere (m + 2) k (a ++ l) (n1 + 1 + n2) := fun pre post f hf => by
  obtain ⟨s, e1, l1⟩ := h1 pre (l ++ post) f hf
  obtain ⟨t, e2, l2⟩ := h2 (pre ++ a) post f hf
  rw [show pre ++ a ++ (l ++ post) = pre ++ (a ++ l) ++ post by simp] at e1
  rw [show pre ++ a ++ l ++ post = pre ++ (a ++ l) ++ post by simp, List.length_append] at e2
  have e3 : rowsP ere (pre ++ (a ++ l) ++ post) (wholeP ere (pre ++ (a ++ l) ++ post) f) (m + 1) false (pre.length + a.length) = some (124 :: t, pre.length + a.length + l.length) := by
    rw [rowsP] at e2 ⊢
    split at e2
    · cases e2
    · rename_i h3
      split at e2
      · cases e2
      · rename_i h4
        simp only [if_true, List.nil_append, Option.some.injEq, Prod.mk.injEq] at e2
        simp only [Bool.false_eq_true, if_false]
        rw [← e2.1, ← e2.2]
        rfl
  refine ⟨s ++ (124 :: t), ?_, by simp only [List.length_append, List.length_cons]; omega⟩
  rw [rowsP, e1]
  simp only
  rw [e3]
  simp only [if_true, List.nil_append, List.length_append, Nat.add_assoc]
theorem PRS.whole {m : Nat} {l : List Nd} {n : Nat} (h : PRS ere (m + 1) k l n) (he : 1 ≤ m → ere = true) : PW ere k (if 1 < m + 1 then altN (m + 1) :: l else l) n := by
  by_cases h1 : 1 < m + 1
  · rw [if_pos h1]
    intro pre post f hf
    obtain ⟨f, rfl⟩ : ∃ q, f = q + 1 := ⟨f - 1, by omega⟩
    obtain ⟨s, e1, l1⟩ := h (pre ++ [altN (m + 1)]) post f (by omega)
    rw [show pre ++ [altN (m + 1)] ++ l ++ post = pre ++ (altN (m + 1) :: l) ++ post by simp, show (pre ++ [altN (m + 1)]).length = pre.length + 1 by simp] at e1
    refine ⟨s, ?_, l1⟩
    rw [wholeP, get_mid]
    simp only
    rw [if_neg (by simp [altN]), if_pos (he (by omega)), show (altN (m + 1)).kids.toNat = m + 1 from rfl, e1, List.length_cons, Nat.add_assoc, Nat.add_comm 1]
  · rw [if_neg h1]
    obtain rfl : m = 0 := by omega
    intro pre post f hf
    obtain ⟨f, rfl⟩ : ∃ q, f = q + 1 := ⟨f - 1, by omega⟩
    obtain ⟨s, e1, l1⟩ := h pre post f (by omega)
    simp only [rowsP] at e1
    split at e1
    · cases e1
    · rename_i s1 j1 hr
      simp only [if_true, List.nil_append, List.append_nil] at e1
      obtain ⟨x, hx, h5, _⟩ := rowP_op hr
      refine ⟨s, ?_, l1⟩
      rw [wholeP, hx]
      simp only
      rw [if_pos h5, hr, e1]
end
/-! ### What is read can be spelled -/
section
variable {ere : Bool} {L : List Mk}
/-- What a group comes to. -/
def GP (ere : Bool) (k : Nat) (grp : Rst → Out (List Nd)) : Prop := ∀ s re t, grp s = .ok re t → s.i < t.i ∧ PA ere k re (16 * (t.i - s.i))
theorem atomL_sp (hu : ∀ i, i < L.length → (markAt L i).b < 256) {k : Nat} {grp : Rst → Out (List Nd)} (hg : GP ere k grp) {first : Bool} {s t : Rst} {re : List Nd} {tk : Bool} (h : atomL ere first L grp s = .ok (re, tk) t) :
    s.i < t.i ∧ ((tk = true ∧ PA ere k re (16 * (t.i - s.i))) ∨ (tk = false ∧ re = [beginN] ∧ (ere = true ∨ first = true)) ∨ (tk = false ∧ re = [endN] ∧ (ere = true ∨ L.length ≤ t.i ∨ seesAt L t.i [92, 41] = true))) := by
  have one : ∀ (b n : Nat), b < 256 → 1 ≤ n → PA ere k [oneN b] (16 * n) := fun b n hb hn => (PA.set (Cls.of [b])).mono (by have := setB_one ere hb; omega)
  unfold atomL at h
  simp only at h
  split at h
  · cases h
    exact ⟨Nat.lt_succ_self _, .inl ⟨rfl, by simp only [Nat.add_sub_cancel_left]; exact one _ _ (mark_lt hu _) (by omega)⟩⟩
  · split at h
    · unfold anyL at h
      cases h
      refine ⟨Nat.lt_succ_self _, .inl ⟨rfl, (PA.set _).mono ?_⟩⟩
      rw [setB_all]
      simp only [List.length_cons, List.length_nil]
      omega
    · split at h
      · unfold brackL at h
        split at h
        · cases h
        · rename_i c i hb
          cases h
          have h1 := bracket_starts hu hb
          have h2 := setB_len ere c
          simp only at h1
          refine ⟨by simp only; omega, .inl ⟨rfl, (PA.set c).mono ?_⟩⟩
          simp only
          omega
      · split at h
        · unfold escapeL at h
          split at h
          · cases h
          · split at h
            · cases h
            · simp only at h
              split at h
              · unfold withTrue at h
                split at h
                · rename_i hx
                  cases h
                  obtain ⟨h1, h2⟩ := hg _ _ _ hx
                  exact ⟨h1, .inl ⟨rfl, h2⟩⟩
                · cases h
              · split at h
                · cases h
                  refine ⟨by simp only; omega, .inl ⟨rfl, one _ _ (by decide) (by simp only; omega)⟩⟩
                · split at h
                  · cases h
                    refine ⟨by simp only; omega, .inl ⟨rfl, one _ _ (mark_lt hu _) (by simp only; omega)⟩⟩
                  · split at h
                    · rename_i hd
                      simp only [Bool.and_eq_true, decide_eq_true_eq, Bool.not_eq_true'] at hd
                      split at h
                      · cases h
                      · split at h
                        · cases h
                        · cases h
                          refine ⟨by simp only; omega, .inl ⟨rfl, (PA.ref hd.1.1 (by omega)).mono (by simp only; omega)⟩⟩
                    · cases h
        · split at h
          · unfold beginL at h
            split at h
            · cases h
              refine ⟨Nat.lt_succ_self _, .inl ⟨rfl, one _ _ (by decide) (by simp only; omega)⟩⟩
            · rename_i hc
              cases h
              refine ⟨Nat.lt_succ_self _, .inr (.inl ⟨rfl, rfl, ?_⟩)⟩
              cases ere <;> cases first <;> simp at hc ⊢
          · split at h
            · unfold endL at h
              split at h
              · cases h
                refine ⟨Nat.lt_succ_self _, .inl ⟨rfl, one _ _ (by decide) (by simp only; omega)⟩⟩
              · rename_i hc
                cases h
                refine ⟨Nat.lt_succ_self _, .inr (.inr ⟨rfl, rfl, ?_⟩)⟩
                cases he : ere with
                | true => exact .inl rfl
                | false =>
                  right
                  rw [he] at hc
                  by_cases hl : s.i + 1 < L.length
                  · right
                    rw [decide_eq_true hl] at hc
                    simp only [Bool.not_false, Bool.and_self, Bool.true_and, Bool.not_eq_true', Bool.not_eq_false] at hc
                    exact hc
                  · left; simp only; omega
            · split at h
              · unfold withTrue at h
                split at h
                · rename_i hx
                  cases h
                  obtain ⟨h1, h2⟩ := hg _ _ _ hx
                  exact ⟨h1, .inl ⟨rfl, h2⟩⟩
                · cases h
              · cases h
                refine ⟨Nat.lt_succ_self _, .inl ⟨rfl, one _ _ (mark_lt hu _) (by simp only; omega)⟩⟩
theorem rowL_sp (hu : ∀ i, i < L.length → (markAt L i).b < 256) {k : Nat} {top : Bool} {grp : Rst → Out (List Nd)} (hg : GP ere k grp) : ∀ (f : Nat) (all : List Nd) (n : Nat) (lead : Bool) (s : Rst) (r : Nat × List Nd) (t : Rst), rowL ere top L grp f all n lead s = .ok r t →
    ∃ m l, r = (n + m, all ++ l) ∧ s.i ≤ t.i ∧ (m = 0 → s = t) ∧ PS ere (n == 0) m k l (16 * (t.i - s.i))
  | 0, _, _, _, _, _, _, h => by simp [rowL] at h
  | f + 1, all, n, lead, s, r, t, h => by
    have stop : (Out.ok (n, all) s : Out (Nat × List Nd)) = .ok r t → ∃ m l, r = (n + m, all ++ l) ∧ s.i ≤ t.i ∧ (m = 0 → s = t) ∧ PS ere (n == 0) m k l (16 * (t.i - s.i)) := fun e => by
      cases e
      exact ⟨0, [], by simp, Nat.le_refl _, fun _ => rfl, by rw [Nat.sub_self, Nat.mul_zero]; exact PS.nil _⟩
    unfold rowL at h
    split at h
    · exact stop h
    · split at h
      · exact stop h
      · split at h
        · split at h
          · cases h
          · exact stop h
        · split at h
          · cases h
          · split at h
            · cases h
            · rename_i re tk u hx
              obtain ⟨hlt, hat⟩ := atomL_sp hu hg hx
              simp only at h
              have fin : ∀ (v : Rst) (all' : List Nd) (lead' : Bool) (a : List Nd) (n1 : Nat), all' = all ++ a → u.i ≤ v.i → n1 ≤ 16 * (v.i - s.i) → rowL ere top L grp f all' (n + 1) lead' v = .ok r t → (∀ m, (v = u → ∀ l, r = (n + 1 + m, all' ++ l) → (m = 0 → v = t) → PP ere (n == 0) (m == 0) k a n1) ∧ (v ≠ u → PP ere (n == 0) (m == 0) k a n1)) →
                  ∃ m l, r = (n + m, all ++ l) ∧ s.i ≤ t.i ∧ (m = 0 → s = t) ∧ PS ere (n == 0) m k l (16 * (t.i - s.i)) := by
                intro v all' lead' a n1 he hv hn1 hr hp
                obtain ⟨m, l, h1, h2, h3, h4⟩ := rowL_sp hu hg f all' (n + 1) lead' v r t hr
                have hpp : PP ere (n == 0) (m == 0) k a n1 := by
                  by_cases hvu : v = u
                  · exact (hp m).1 hvu l h1 h3
                  · exact (hp m).2 hvu
                refine ⟨m + 1, a ++ l, ?_, by omega, fun h => by omega, ?_⟩
                · rw [h1, he, List.append_assoc, show n + 1 + m = n + (m + 1) by omega]
                · rw [show (n + 1 == 0) = false from rfl] at h4
                  have h5 := PS.cons hpp h4
                  intro pre post f hf
                  obtain ⟨str, e1, e2⟩ := h5 pre post f hf
                  exact ⟨str, e1, by omega⟩
              split at h
              · rename_i hc
                simp only [Bool.and_eq_true] at hc
                split at h
                · cases h
                · rename_i d v hd
                  have hgd := dupL_good hd
                  have hpa : PA ere k re (16 * (u.i - s.i)) := by
                    rcases hat with h1 | h1 | h1
                    · exact h1.2
                    · rw [h1.1] at hc; cases hc.1
                    · rw [h1.1] at hc; cases hc.1
                  have hadv : u.i < v.i := by
                    unfold dupL at hd
                    split at hd
                    · cases hd; exact Nat.lt_succ_self _
                    · split at hd
                      · cases hd; exact Nat.lt_succ_self _
                      · split at hd
                        · cases hd; exact Nat.lt_succ_self _
                        · split at hd
                          · cases hd
                          · rename_i lo hi t' hi1
                            cases hd
                            unfold intervalL at hi1
                            have hge : ∀ (f : Nat) (n : Int) (i : Nat), i ≤ (numberL L f n i).2 := by
                              intro f
                              induction f with
                              | zero => intro n i; exact Nat.le_refl _
                              | succ f ih =>
                                intro n i
                                unfold numberL
                                split
                                · exact Nat.le_refl _
                                · split
                                  · exact Nat.le_refl _
                                  · have := ih (min (max n 0 * 10 + (((markAt L i).b : Int) - 48)) 256) (i + 1)
                                    omega
                            have h1 : u.i + wideB ere ≤ (numL L (u.i + wideB ere)).2 := hge _ _ _
                            generalize numL L (u.i + wideB ere) = a at hi1 h1
                            obtain ⟨b, hb⟩ : ∃ b, b = (if seesAt L a.2 [44] then numL L (a.2 + 1) else a) := ⟨_, rfl⟩
                            have h2 : a.2 ≤ b.2 := by
                              rw [hb]
                              split
                              · have := hge (L.length - (a.2 + 1)) (-1) (a.2 + 1)
                                unfold numL
                                omega
                              · exact Nat.le_refl _
                            simp only [← hb] at hi1
                            have h3 : 1 ≤ wideB ere := by cases ere <;> decide
                            split at hi1
                            · cases hi1
                            · cases hi1
                              simp only
                              omega
                  refine fin v _ _ (d :: re) (16 * (u.i - s.i) + 11) rfl (by omega) (by omega) h (fun m => ⟨fun e => ?_, fun _ => hpa.dup hgd.1 hgd.2.2.1 _ _⟩)
                  rw [e] at hadv
                  exact absurd hadv (Nat.lt_irrefl _)
              · refine fin u _ _ re (16 * (u.i - s.i)) rfl (Nat.le_refl _) (Nat.le_refl _) h (fun m => ⟨fun _ l hrl hst => ?_, fun e => absurd rfl e⟩)
                rcases hat with h1 | ⟨_, rfl, h2⟩ | ⟨_, rfl, h2⟩
                · exact h1.2.part _ _
                · exact (PP.begin (last := (m == 0)) h2).mono (by omega)
                · refine (PP.end_ (first := (n == 0)) (last := (m == 0)) ?_).mono (by omega)
                  cases he : ere with
                  | true => exact .inl rfl
                  | false =>
                    right
                    rw [he] at h2 h
                    simp only [Bool.false_eq_true, false_or] at h2
                    cases f with
                    | zero => simp [rowL] at h
                    | succ f =>
                      have hz : r = (n + 1, all ++ [endN]) := by
                        unfold rowL at h
                        rcases h2 with h2 | h2
                        · rw [if_pos h2] at h; cases h; rfl
                        · split at h
                          · cases h; rfl
                          · rw [Bool.false_and, if_neg Bool.false_ne_true, show signB false 41 = [92, 41] from rfl, h2, if_pos rfl] at h
                            split at h
                            · cases h
                            · cases h; rfl
                      rw [hz] at hrl
                      have := congrArg Prod.fst hrl
                      simp only at this
                      have : m = 0 := by omega
                      rw [this]; rfl
theorem sidesL_sp (hu : ∀ i, i < L.length → (markAt L i).b < 256) {k : Nat} {top : Bool} {grp : Rst → Out (List Nd)} (hg : GP ere k grp) : ∀ (f : Nat) (all : List Nd) (n : Nat) (s : Rst) (re : List Nd) (t : Rst), sidesL ere L (rowS ere top L grp) f all n s = .ok re t →
    s.i ≤ t.i ∧ ∃ m l, re = (if 1 < n + m + 1 then altN (n + m + 1) :: (all ++ l) else all ++ l) ∧ (1 ≤ m → ere = true) ∧ (PRS ere (m + 1) k l (16 * (t.i - s.i)) ∨ (n = 0 ∧ m = 0 ∧ l = [catN 0] ∧ s = t))
  | 0, _, _, _, _, _, h => by simp [sidesL] at h
  | f + 1, all, n, s, re, t, h => by
    unfold sidesL at h
    split at h
    · cases h
    · rename_i parts r u hx
      obtain ⟨m, l, h1, h2, h3, h4⟩ := rowL_sp hu hg _ _ _ _ _ _ _ hx
      simp only [Nat.zero_add, List.nil_append, Prod.mk.injEq] at h1
      obtain ⟨rfl, rfl⟩ := h1
      simp only at h
      split at h
      · cases h
      · rename_i hpz
        split at h
        · rename_i hmore
          cases h
          refine ⟨h2, 0, _, rfl, by omega, ?_⟩
          by_cases hp : parts = 0
          · right
            subst hp
            have hn : n = 0 := by
              simp only [beq_self_eq_true, Bool.true_and, Bool.or_eq_true, decide_eq_true_eq, not_or] at hpz
              omega
            refine ⟨hn, rfl, ?_, h3 rfl⟩
            have hl : r = [] := by
              obtain ⟨str, e1, _⟩ := h4 [] [] k (Nat.le_refl _)
              simp only [partsP, List.length_nil, Nat.zero_add, Option.some.injEq, Prod.mk.injEq] at e1
              exact List.length_eq_zero_iff.1 e1.2.symm
            rw [hl, if_neg (by decide)]
          · left
            exact (h4.row (by omega)).one
        · rename_i hmore
          have hp0 : parts ≠ 0 := by
            intro hp
            rw [hp] at hpz
            simp only [Bool.not_eq_true', Bool.not_eq_false] at hmore
            rw [hmore] at hpz
            simp at hpz
          have he : ere = true := by
            simp only [Bool.not_eq_true', Bool.not_eq_false, Bool.and_eq_true] at hmore
            exact hmore.1
          obtain ⟨g1, m, l, rfl, g2, g3⟩ := sidesL_sp hu hg f _ _ _ _ _ h
          simp only at g1
          refine ⟨by omega, m + 1, (if parts = 1 then r else catN parts :: r) ++ l, ?_, fun _ => he, .inl ?_⟩
          · rw [show n + 1 + m + 1 = n + (m + 1) + 1 by omega, List.append_assoc]
          · rcases g3 with g3 | g3
            · have g4 := (h4.row (by omega)).cons g3
              intro pre post f hf
              obtain ⟨str, e1, e2⟩ := g4 pre post f hf
              exact ⟨str, e1, by simp only at e2 ⊢; omega⟩
            · omega
theorem groupL_sp (hu : ∀ i, i < L.length → (markAt L i).b < 256) : ∀ (k : Nat), GP ere k (groupL ere L k)
  | 0 => fun s re t h => by simp [groupL] at h
  | k + 1 => fun s re t h => by
    unfold groupL at h
    split at h
    · cases h
    · split at h
      · cases h
      · rename_i r u hx
        obtain ⟨g1, m, l, h1, h2, h3⟩ := sidesL_sp hu (groupL_sp hu k) _ _ _ _ _ _ hx
        simp only at g1
        have hw : 1 ≤ wideB ere := by cases ere <;> decide
        split at h
        · cases h
        · cases h
          simp only
          refine ⟨by omega, ?_⟩
          rw [Nat.zero_add, List.nil_append] at h1
          have hc : PW ere k r (16 * (u.i - (s.i + wideB ere))) ∨ r = [catN 0] := by
            rcases h3 with h3 | ⟨_, rfl, rfl, _⟩
            · left
              rw [h1]
              exact h3.whole h2
            · right
              rw [h1]
              rfl
          exact (PA.group hc).mono (by omega)
theorem parse_spell (hu : ∀ i, i < L.length → (markAt L i).b < 256) {re : List Nd} (h : parseL ere L = .ok re) : (∃ s, spellN ere re = some s) ∨ 256 < L.length := by
  unfold parseL at h
  split at h
  · cases h
  · split at h
    · cases h
    · rename_i hne
      split at h
      · cases h
      · rename_i re' t hx
        have hre : re' = re := by
          split at h
          · split at h
            · cases h
            · cases h; rfl
          · cases h
        subst hre
        by_cases hl : 256 < L.length
        · exact .inr hl
        left
        have hri := sidesK_rise hu 64 (Nat.zero_le _) hx
        have hst := sidesK_stop 64 hx
        obtain ⟨g1, m, l, h1, h2, h3⟩ := sidesL_sp hu (groupL_sp hu 64) _ _ _ _ _ _ hx
        rw [Nat.zero_add, List.nil_append] at h1
        rcases h3 with h3 | ⟨_, _, _, hs⟩
        · have h4 := h3.whole h2
          rw [← h1] at h4
          obtain ⟨s, e1, e2⟩ := h4 [] [] 66 (by decide)
          simp only [List.nil_append, List.append_nil, List.length_nil, Nat.zero_add] at e1
          refine ⟨s, ?_⟩
          unfold spellN
          rw [e1]
          simp only
          rw [if_pos]
          have := hri.le
          simp only at e2
          omega
        · exfalso
          rw [← hs] at hst
          rcases hst with hst | ⟨_, hst⟩
          · simp only at hst; omega
          · simp at hst
end
end Go.Proofs.YtbdjcmhfcdamiaaDoor
