/- A world of lines, anew; works, step by step. No condition. -/
import Derived.Test.YtdinjlglngpecaaGreatDoorSq
import Derived.Test.YtdinjlglngpecaaGreatDoorSt
namespace Go.Proofs.YtdinjlglngpecaaGreatDoor
open Go.RowKit

section
variable {w w' : World} {base m ca : Nat} {mu : Bool} {oa : Option Addr}
theorem WlM.new {C : Array Value} (hf : ∀ p ∈ fixL mu oa m ca, C[p.1]? = some p.2) (h16 : C[16]? = some (.int .i64 0)) (h17 : C[17]? = some (.int .i64 0)) (h18 : C[18]? = some (.int .i64 0)) (hr : ∀ i ∈ rowsL, C[i]? = some (.slice none 0 0)) :
    WlM (w.alloc (.cells C 42)) w.heap.size base mu oa m ca 0 0 0 (fun _ => none) [] :=
  ⟨new_lt _ _, fun p hp => (new_cell _ _ _ _).trans (hf p hp), (new_cell _ _ _ _).trans h16, (new_cell _ _ _ _).trans h17, ⟨0, (new_cell _ _ _ _).trans h18, Nat.le_refl _⟩,
    fun _ hi => ⟨.slice none 0 0, 0, [], (new_cell _ _ _ _).trans (hr _ hi), World.ownsRow_nil _ _ _ _, rfl, fun _ => ⟨rfl, rfl⟩, fun _ => Nat.le_refl _⟩, fun _ _ _ _ _ h => absurd rfl h, new_fz _ _ _⟩
/-- The cells of a world of lines, anew. -/
def wlArr (mu : Bool) (oa : Option Addr) (m ca : Nat) : Array Value := #[.slice oa m ca, .pointer none, .pointer none, .pointer none, .slice none 0 0, .int .i64 0, .int .i64 0, .int .i64 0, .int .i64 0, .pointer none, .slice none 0 0, .string ⟨#[]⟩, .bool mu, .bool false, .bool false, .bool false, .int .i64 0, .int .i64 0, .int .i64 0, .slice none 0 0, .string ⟨#[]⟩, .slice none 0 0, .slice none 0 0, .slice none 0 0, .slice none 0 0]
theorem WlM.anew (w : World) (base : Nat) (mu : Bool) (oa : Option Addr) (m ca : Nat) : WlM (w.alloc (.cells (wlArr mu oa m ca) 42)) w.heap.size base mu oa m ca 0 0 0 (fun _ => none) [] := by
  refine WlM.new (fun p hp => ?_) rfl rfl rfl fun i hi => ?_
  · simp only [fixL, List.mem_cons, List.not_mem_nil, or_false] at hp
    rcases hp with rfl | rfl | rfl | rfl | rfl | rfl | rfl | rfl | rfl <;> rfl
  · simp only [rowsL, List.mem_cons, List.not_mem_nil, or_false] at hi
    rcases hi with rfl | rfl | rfl | rfl | rfl <;> rfl
/-- Where works stands. -/
def WkR (wr : World) (k : CK) (base : Nat) (oa : Option Addr) (i : Nat) : Prop :=
  ∃ s T pk n u z O A, StS wr k s T pk base false oa 1 1 n u z O A ∧ s.si = false ∧ u ≤ i ∧ z ≤ 60 * i ∧ T.length ≤ 2 ∧
    ((i = 0 ∧ s.pl = -1 ∧ n = 0 ∧ A = [] ∧ s.st = 0) ∨ (i = 1 ∧ s.pl = 0 ∧ n = 1 ∧ A = [] ∧ s.st = 0 ∧ T = [97, 98]) ∨ (i = 2 ∧ s.pl = 1 ∧ n = 1 ∧ A = [97, 98, 10] ∧ s.st = 1 ∧ T = [97, 98]) ∨
      (i = 3 ∧ s.pl = -1 ∧ n = 1 ∧ A = [97, 98, 10, 97, 98, 10] ∧ s.st = 1 ∧ T = [97, 98]) ∨ (i = 4 ∧ s.pl = -2 ∧ n = 1 ∧ A = [97, 98, 10, 97, 98, 10] ∧ s.st = 1 ∧ T = [97, 98]))
theorem wk_step {wr : World} {k : CK} {i B : Nat} (h : WkR wr k base oa i) (hi : i < 4) (hn : k.nc = 1) (hq : k.q = false) (hB : B ≤ k.wb) {l : Lin} (hL : LnB wr B oa [l]) (hl : l.T = [97, 98]) :
    Calls Tryz.prog 13 #[.pointer (some ⟨k.mb, 0, none⟩)] wr fun e w' => e = .returned (.int .i64 0) ∧ WkR w' k base oa (i + 1) ∧ Below B wr w' := by
  obtain ⟨s, T, pk, n, u, z, O, A, hs, hsi, hu, hz, hT, hc⟩ := h
  have hbel : ∀ w' F', Grw wr w' (sfoot k O pk) F' → Below B wr w' := fun w' F' hg => hg.kept.below (by have := hs.wl.lt; omega) fun j hj e => by
    rcases e with e | e | e
    · omega
    · have := (hs.wl.footLt e).1; have := hs.blt; omega
    · have := hs.pq e; omega
  rcases hc with ⟨rfl, hp, rfl, rfl, hst⟩ | ⟨rfl, hp, rfl, rfl, hst, rfl⟩ | ⟨rfl, hp, rfl, rfl, hst, rfl⟩ | ⟨rfl, hp, rfl, rfl, hst, rfl⟩ | ⟨rfl, _⟩
  · refine (step_some hs hp (by omega) (fun _ => by omega) (by decide) (by decide) hB hL (l := l) rfl (by rw [hl]; decide)).mono ?_
    rintro e w' ⟨he, O', pk', h1, hg⟩
    exact ⟨he, ⟨_, _, pk', _, _, _, O', _, h1, hsi, by omega, by omega, by rw [hl]; decide, .inr (.inl ⟨rfl, rfl, rfl, rfl, hst, hl⟩)⟩, hbel _ _ hg⟩
  · refine (step_cmd hs hp hn (by omega) (by omega) (by decide) (by omega) (by omega)).mono ?_
    rintro e w' ⟨he, O', h1, hg⟩
    exact ⟨he, ⟨_, _, pk, _, _, _, O', _, h1, hsi, by omega, by simp only [List.length_cons, List.length_nil]; omega, hT, .inr (.inr (.inl ⟨rfl, rfl, rfl, rfl, by show s.st + 1 = 1; omega, rfl⟩))⟩, hbel _ _ hg⟩
  · refine (step_end hs (by rw [hn]; exact hp) hsi (by omega) (by omega) (by decide)).mono ?_
    rintro e w' ⟨he, O', u', hu', h1, hg⟩
    rw [hq] at h1
    exact ⟨he, ⟨_, _, pk, _, _, _, O', _, h1, hsi, by omega, by simp only [List.length_cons, List.length_nil]; omega, hT, .inr (.inr (.inr (.inl ⟨rfl, rfl, rfl, rfl, hst, rfl⟩)))⟩, hbel _ _ hg⟩
  · refine (step_none hs hp (by omega) (by decide)).mono ?_
    rintro e w' ⟨he, O', h1, hg⟩
    exact ⟨he, ⟨_, _, pk, _, _, _, O', _, h1, hsi, by omega, by omega, hT, .inr (.inr (.inr (.inr ⟨rfl, rfl, rfl, rfl, hst, rfl⟩)))⟩, hbel _ _ hg⟩
  · omega
end
end Go.Proofs.YtdinjlglngpecaaGreatDoor
