import Derived.Test.YtdagpgccjamkmaaGpC
import Derived.Test.YtdagpgccjamkmaaGx1
/-! What the law's functions compute, as plain lists: whether the rule is so; the law itself. -/
namespace Go.Proofs.Ytdagpgccjamkmaa.G
open Go.RowKit Go.Proofs.YtdagpgccjamkmaaW.PrintWords Go.Proofs.YtdagpgccjamkmaaW.PrintLast Go.Proofs.YtdagpgccjamkmaaW.PrintMore

theorem find_tells (ls : List S37) (hs : ls.length ≤ 1000) : ∀ d i, ls.length - i = d → i ≤ ls.length →
    ∃ r, Ev (fun k => api_Literal_32.l0 k ls (ls.length : Int) (i : Int)) r ∧ decide (r ≥ 0) = (ls.drop i).any atomL := by
  intro d
  induction d with
  | zero =>
    intro i hd hi
    have : i = ls.length := by omega
    subst this
    refine ⟨-1, Ev.step (f := fun _ => some (-1)) (fun k => ?_) (Ev.now _), ?_⟩
    · simp only [api_Literal_32.l0]
      rw [if_neg (by omega)]
    · rw [List.drop_length]; rfl
  | succ d ih =>
    intro i hd hi
    have hlt : i < ls.length := by omega
    obtain ⟨r, h, hr⟩ := ih (i + 1) (by omega) (by omega)
    rw [List.drop_eq_getElem_cons hlt, List.any_cons]
    cases hb : atomL ls[i] with
    | true =>
      refine ⟨i, Ev.step (f := fun _ => some (i : Int)) (fun k => ?_) (Ev.now _), ?_⟩
      · simp only [api_Literal_32.l0]
        rw [if_pos (by omega), if_pos (by omega), if_pos (by omega), rd37 hlt, binds_eq, hb]
        rfl
      · rw [Bool.true_or]; exact decide_eq_true (by omega)
    | false =>
      refine ⟨r, Ev.step (f := fun k => api_Literal_32.l0 k ls (ls.length : Int) ((i + 1 : Nat) : Int)) (fun k => ?_) h, ?_⟩
      · simp only [api_Literal_32.l0]
        rw [if_pos (by omega), if_pos (by omega), if_pos (by omega), rd37 hlt, binds_eq, hb, wrap_up (by omega)]
        rfl
      · rw [Bool.false_or]; exact hr

theorem some_ev (ls : List S37) (hs : ls.length ≤ 1000) : Ev (fun k => api_Literal_20.f k ls) (ls.any atomL) := by
  obtain ⟨r, h, hr⟩ := find_tells ls hs ls.length 0 (by omega) (by omega)
  refine Ev.bind (g := fun k => api_Literal_32.f k ls) (f := fun _ t => some (decide (t ≥ 0))) h ?_
  have : ls.any atomL = decide (r ≥ 0) := by rw [hr]; rfl
  rw [this]
  exact Ev.now _

/-- Whether the rule is so, out of the first that is not bound. -/
def checkL (r : ByteArray × Int × Bool) (ls : List S37) : Int × Int :=
  if ls.any atomL = true then (if r.2.2 = true then (r.2.1, 12) else (0, 0)) else (-1, 12)

section
variable (a0 : Int) (a1 : ByteArray) (l2 : List ByteArray) (a3 : Int) (a4 : ByteArray) (a5 : Int)

theorem ends_ev (g : Nat → Option (ByteArray × Int × Bool)) (r : ByteArray × Int × Bool) (h : Ev g r) : Ev (fun k => (g k).bind fun bt => (if bt.2.2 = true then (some (bt.2.1, (12 : Int))) else (some ((0 : Int), (0 : Int))))) (if r.2.2 = true then (r.2.1, 12) else (0, 0)) := by
  refine Ev.bind (f := fun _ bt => (if bt.2.2 = true then (some (bt.2.1, (12 : Int))) else (some ((0 : Int), (0 : Int))))) h ?_
  split
  · exact Ev.now _
  · exact Ev.now _

theorem check_ev (ls : List S37) (hs : ls.length ≤ 1000) (r : ByteArray × Int × Bool) (h : Ev (fun k => guard_Free.f k a0 a1 l2 a3 a4 a5 ls) r) : Ev (fun k => guard_Check.f k a0 a1 l2 a3 a4 a5 ls) (checkL r ls) := by
  refine Ev.bind (f := fun k t => (if t = true then ((guard_Free.f k a0 a1 l2 a3 a4 a5 ls).bind fun bt164 => (if bt164.2.2 = true then (some (bt164.2.1, 12)) else (some (0, 0)))) else (some ((-1), 12)))) (some_ev ls hs) ?_
  unfold checkL
  cases hb : ls.any atomL with
  | true => exact Ev.congr (f := fun k => (guard_Free.f k a0 a1 l2 a3 a4 a5 ls).bind fun bt => (if bt.2.2 = true then (some (bt.2.1, (12 : Int))) else (some ((0 : Int), (0 : Int))))) (fun k => if_pos rfl) (ends_ev _ _ h)
  | false => exact Ev.congr (f := fun _ => some ((-1 : Int), (12 : Int))) (fun k => if_neg (by decide)) (Ev.now _)

theorem rcheck_tells (ls : List S37) (hs : ls.length ≤ 1000) (r : ByteArray × Int × Bool) (h : Ev (fun k => verdererref15_Free.f k a0 a1 l2 a3 a4 a5 ls) r) : ∀ d i s, ls.length - i = d → i ≤ ls.length →
    Ev (fun k => verdererref15_Check.l0 k s (i : Int) a0 a1 l2 a3 a4 a5 ls) (if (s || (ls.drop i).any atomL) = true then (if r.2.2 = true then (r.2.1, 12) else (0, 0)) else (-1, 12)) := by
  intro d
  induction d with
  | zero =>
    intro i s hd hi
    have : i = ls.length := by omega
    subst this
    rw [List.drop_length, List.any_nil, Bool.or_false]
    cases s with
    | true =>
      rw [if_pos rfl]
      refine Ev.step (f := fun k => (verdererref15_Free.f k a0 a1 l2 a3 a4 a5 ls).bind fun bt => (if bt.2.2 = true then (some (bt.2.1, (12 : Int))) else (some ((0 : Int), (0 : Int))))) (fun k => ?_) (ends_ev _ _ h)
      simp only [verdererref15_Check.l0]
      rw [if_neg (by omega), if_pos trivial]
    | false =>
      rw [if_neg (by decide)]
      refine Ev.step (f := fun _ => some ((-1 : Int), (12 : Int))) (fun k => ?_) (Ev.now _)
      simp only [verdererref15_Check.l0]
      rw [if_neg (by omega), if_neg (by decide)]
  | succ d ih =>
    intro i s hd hi
    have hlt : i < ls.length := by omega
    rw [List.drop_eq_getElem_cons hlt, List.any_cons]
    cases s with
    | true =>
      have h2 := ih (i + 1) true (by omega) (by omega)
      rw [Bool.true_or] at h2 ⊢
      refine Ev.step (f := fun k => verdererref15_Check.l0 k true ((i + 1 : Nat) : Int) a0 a1 l2 a3 a4 a5 ls) (fun k => ?_) h2
      simp only [verdererref15_Check.l0]
      rw [if_pos (by omega), if_pos trivial, wrap_up (by omega)]
    | false =>
      have h2 := ih (i + 1) (atomL ls[i]) (by omega) (by omega)
      rw [Bool.false_or]
      refine Ev.step (f := fun k => verdererref15_Check.l0 k (atomL ls[i]) ((i + 1 : Nat) : Int) a0 a1 l2 a3 a4 a5 ls) (fun k => ?_) h2
      simp only [verdererref15_Check.l0]
      rw [if_pos (by omega), if_neg (by decide), if_pos (by omega), rd37 hlt, atom_eq, wrap_up (by omega)]
      rfl

theorem rcheck_ev (ls : List S37) (hs : ls.length ≤ 1000) (r : ByteArray × Int × Bool) (h : Ev (fun k => verdererref15_Free.f k a0 a1 l2 a3 a4 a5 ls) r) : Ev (fun k => verdererref15_Check.f k a0 a1 l2 a3 a4 a5 ls) (checkL r ls) := by
  have h2 := rcheck_tells a0 a1 l2 a3 a4 a5 ls hs r h ls.length 0 false (by omega) (by omega)
  exact h2

/-- What 'Few' asks of lengths. -/
def FewL (l2 : List ByteArray) (ls : List S37) : Prop := l2.length ≤ 100 ∧ ls.length ≤ 40 ∧ ∀ (i : Nat) (h : i < ls.length), ls[i].f2.length ≤ 100

theorem few_no (ls : List S37) : Ev (fun k => verdererref13_Few.j0 k true a0 a1 l2 a3 a4 a5 ls) false := by
  refine Ev.step (f := fun _ => some false) (fun k => ?_) (Ev.now _)
  simp only [verdererref13_Few.j0]
  rw [if_pos trivial]

theorem few2 (ls : List S37) (i : Nat) (hi : i < ls.length) (hs : ls.length ≤ 40) (ha : ls[i].f2.length ≤ 100) (p : Prop) (h : ∃ r, Ev (fun k => verdererref13_Few.l1 k ((i + 1 : Nat) : Int) a0 a1 l2 a3 a4 a5 ls) r ∧ (r = true → p)) : ∀ d j, ls[i].f2.length - j = d → j ≤ ls[i].f2.length →
    ∃ r, Ev (fun k => verdererref13_Few.l2 k (i : Int) (j : Int) a0 a1 l2 a3 a4 a5 ls) r ∧ (r = true → p) := by
  intro d
  induction d with
  | zero =>
    intro j hd hj
    have : j = ls[i].f2.length := by omega
    subst this
    obtain ⟨r, h, hp⟩ := h
    refine ⟨r, Ev.step (f := fun k => verdererref13_Few.l1 k ((i + 1 : Nat) : Int) a0 a1 l2 a3 a4 a5 ls) (fun k => ?_) h, hp⟩
    simp only [verdererref13_Few.l2]
    rw [if_pos (by omega), if_pos (by omega), rd37 hi, if_neg (by omega), wrap_up (by omega)]
  | succ d ih =>
    intro j hd hj
    have hlt : j < ls[i].f2.length := by omega
    by_cases hb : ((ls[i].f2[j].f0).size : Int) > 400
    · refine ⟨false, Ev.step (f := fun _ => some false) (fun k => ?_) (Ev.now _), fun h => Bool.noConfusion h⟩
      simp only [verdererref13_Few.l2]
      rw [if_pos (by omega), if_pos (by omega), rd37 hi, if_pos (by omega), if_pos (by omega), rd41 hlt, if_pos hb]
    · obtain ⟨r, h2, hp⟩ := ih (j + 1) (by omega) (by omega)
      refine ⟨r, Ev.step (f := fun k => verdererref13_Few.l2 k (i : Int) ((j + 1 : Nat) : Int) a0 a1 l2 a3 a4 a5 ls) (fun k => ?_) h2, hp⟩
      simp only [verdererref13_Few.l2]
      rw [if_pos (by omega), if_pos (by omega), rd37 hi, if_pos (by omega), if_pos (by omega), rd41 hlt, if_neg hb, wrap_up (by omega)]

theorem few1 (ls : List S37) (hs : ls.length ≤ 40) : ∀ d i, ls.length - i = d → i ≤ ls.length →
    ∃ r, Ev (fun k => verdererref13_Few.l1 k (i : Int) a0 a1 l2 a3 a4 a5 ls) r ∧ (r = true → ∀ (j : Nat) (h : j < ls.length), i ≤ j → ls[j].f2.length ≤ 100) := by
  intro d
  induction d with
  | zero =>
    intro i hd hi
    refine ⟨true, Ev.step (f := fun _ => some true) (fun k => ?_) (Ev.now _), fun _ j h hij => by omega⟩
    simp only [verdererref13_Few.l1]
    rw [if_neg (by omega)]
  | succ d ih =>
    intro i hd hi
    have hlt : i < ls.length := by omega
    by_cases h1 : ((ls[i].f2).length : Int) > 100
    · refine ⟨false, Ev.step (f := fun k => verdererref13_Few.j3 k (i : Int) true a0 a1 l2 a3 a4 a5 ls) (fun k => ?_) (Ev.step (f := fun _ => some false) (fun k => ?_) (Ev.now _)), fun h => Bool.noConfusion h⟩
      · simp only [verdererref13_Few.l1]
        rw [if_pos (by omega), if_pos (by omega), rd37 hlt, if_pos h1]
      · simp only [verdererref13_Few.j3]
        rw [if_pos trivial]
    by_cases h2 : ((ls[i].f1).size : Int) > 400
    · refine ⟨false, Ev.step (f := fun k => verdererref13_Few.j3 k (i : Int) true a0 a1 l2 a3 a4 a5 ls) (fun k => ?_) (Ev.step (f := fun _ => some false) (fun k => ?_) (Ev.now _)), fun h => Bool.noConfusion h⟩
      · simp only [verdererref13_Few.l1]
        rw [if_pos (by omega), if_pos (by omega), rd37 hlt, if_neg h1, decide_eq_true h2]
      · simp only [verdererref13_Few.j3]
        rw [if_pos trivial]
    obtain ⟨r0, hr0, hp0⟩ := ih (i + 1) (by omega) (by omega)
    have hal : ls[i].f2.length ≤ 100 := by omega
    obtain ⟨r, hr, hp⟩ := few2 a0 a1 l2 a3 a4 a5 ls i hlt hs hal (∀ (j : Nat) (h : j < ls.length), i ≤ j → ls[j].f2.length ≤ 100) ⟨r0, hr0, fun e j h hij => by
      by_cases he : j = i
      · subst he; exact hal
      · exact hp0 e j h (by omega)⟩ _ 0 rfl (by omega)
    refine ⟨r, Ev.step (f := fun k => verdererref13_Few.j3 k (i : Int) false a0 a1 l2 a3 a4 a5 ls) (fun k => ?_) (Ev.step (f := fun k => verdererref13_Few.l2 k (i : Int) 0 a0 a1 l2 a3 a4 a5 ls) (fun k => ?_) hr), hp⟩
    · simp only [verdererref13_Few.l1]
      rw [if_pos (by omega), if_pos (by omega), rd37 hlt, if_neg h1, decide_eq_false h2]
    · simp only [verdererref13_Few.j3]
      rw [if_neg (by decide)]

theorem few0 (ls : List S37) (hl : l2.length ≤ 100) (hs : ls.length ≤ 40) : ∀ d i, l2.length - i = d → i ≤ l2.length →
    ∃ r, Ev (fun k => verdererref13_Few.l0 k (i : Int) a0 a1 l2 a3 a4 a5 ls) r ∧ (r = true → FewL l2 ls) := by
  intro d
  induction d with
  | zero =>
    intro i hd hi
    obtain ⟨r, hr, hp⟩ := few1 a0 a1 l2 a3 a4 a5 ls hs ls.length 0 (by omega) (by omega)
    refine ⟨r, Ev.step (f := fun k => verdererref13_Few.l1 k 0 a0 a1 l2 a3 a4 a5 ls) (fun k => ?_) hr, fun e => ⟨hl, hs, fun j h => hp e j h (by omega)⟩⟩
    simp only [verdererref13_Few.l0]
    rw [if_neg (by omega)]
  | succ d ih =>
    intro i hd hi
    have hlt : i < l2.length := by omega
    by_cases h1 : ((l2[i]).size : Int) > 400
    · refine ⟨false, Ev.step (f := fun _ => some false) (fun k => ?_) (Ev.now _), fun h => Bool.noConfusion h⟩
      simp only [verdererref13_Few.l0]
      rw [if_pos (by omega), if_pos (by omega), rd_at hlt, if_pos h1]
    · obtain ⟨r, hr, hp⟩ := ih (i + 1) (by omega) (by omega)
      refine ⟨r, Ev.step (f := fun k => verdererref13_Few.l0 k ((i + 1 : Nat) : Int) a0 a1 l2 a3 a4 a5 ls) (fun k => ?_) hr, hp⟩
      simp only [verdererref13_Few.l0]
      rw [if_pos (by omega), if_pos (by omega), rd_at hlt, if_neg h1, wrap_up (by omega)]

theorem few_ev (ls : List S37) : ∃ r, Ev (fun k => verdererref13_Few.f k a0 a1 l2 a3 a4 a5 ls) r ∧ (r = true → FewL l2 ls) := by
  have no : ∀ b : Bool, b = true → Ev (fun k => verdererref13_Few.j0 k b a0 a1 l2 a3 a4 a5 ls) false := fun b hb => by
    subst hb
    exact few_no a0 a1 l2 a3 a4 a5 ls
  by_cases h1 : (l2.length : Int) > 100
  · refine ⟨false, Ev.congr (f := fun k => verdererref13_Few.j0 k true a0 a1 l2 a3 a4 a5 ls) (fun k => ?_) (no _ rfl), fun h => Bool.noConfusion h⟩
    unfold verdererref13_Few.f
    rw [if_pos h1]
  by_cases h2 : (ls.length : Int) > 40
  · refine ⟨false, Ev.congr (f := fun k => verdererref13_Few.j0 k true a0 a1 l2 a3 a4 a5 ls) (fun k => ?_) (no _ rfl), fun h => Bool.noConfusion h⟩
    unfold verdererref13_Few.f
    rw [if_neg h1, if_pos h2]
  by_cases h3 : (wrap64 ((a1.size : Int) + (a4.size : Int))) > 400
  · refine ⟨false, Ev.congr (f := fun k => verdererref13_Few.j0 k true a0 a1 l2 a3 a4 a5 ls) (fun k => ?_) (no _ rfl), fun h => Bool.noConfusion h⟩
    unfold verdererref13_Few.f
    rw [if_neg h1, if_neg h2, decide_eq_true h3]
  · obtain ⟨r, hr, hp⟩ := few0 a0 a1 l2 a3 a4 a5 ls (by omega) (by omega) _ 0 rfl (by omega)
    refine ⟨r, Ev.congr (f := fun k => verdererref13_Few.j0 k false a0 a1 l2 a3 a4 a5 ls) (fun k => ?_) (Ev.step (f := fun k => verdererref13_Few.l0 k 0 a0 a1 l2 a3 a4 a5 ls) (fun k => ?_) hr), hp⟩
    · unfold verdererref13_Few.f
      rw [if_neg h1, if_neg h2, decide_eq_false h3]
    · simp only [verdererref13_Few.j0]
      rw [if_neg (by decide)]

/-- ALL THAT THE LAW COMPARES. -/
theorem all_told (ls : List S37) : ∃ k few, verdererref13_Few.f k a0 a1 l2 a3 a4 a5 ls = some few ∧ (few = true → ∃ b r c,
    guard_Free.f k a0 a1 l2 a3 a4 a5 ls = some r ∧ verdererref15_Free.f k a0 a1 l2 a3 a4 a5 ls = some r ∧
    guard_Check.f k a0 a1 l2 a3 a4 a5 ls = some c ∧ verdererref15_Check.f k a0 a1 l2 a3 a4 a5 ls = some c ∧
    guard_Bound.f k a0 a1 l2 a3 a4 a5 ls = some b ∧ verdererref15_Bound.f k a0 a1 l2 a3 a4 a5 ls = some b ∧ verdererref09_Texts.f k b b = some true) := by
  obtain ⟨few, ⟨K, hK⟩, hp⟩ := few_ev a0 a1 l2 a3 a4 a5 ls
  cases few with
  | false => exact ⟨K, false, hK K (Nat.le_refl _), fun h => Bool.noConfusion h⟩
  | true =>
    obtain ⟨hl, hs, ha⟩ := hp rfl
    have hbl := boundL_length 100 ls [] (fun l hl => by
      obtain ⟨i, h, rfl⟩ := List.getElem_of_mem hl
      exact ha i h)
    have hbl : (boundL [] ls).length ≤ 1000000 := by rw [List.length_nil] at hbl; omega
    have h1 := free_ev a0 a1 l2 a3 a4 a5 ls (by omega) (by omega) ha hbl
    have h2 := rfree_ev a0 a1 l2 a3 a4 a5 ls (by omega) (by omega) ha hbl
    obtain ⟨k3, h3⟩ := check_ev a0 a1 l2 a3 a4 a5 ls (by omega) _ h1
    obtain ⟨k4, h4⟩ := rcheck_ev a0 a1 l2 a3 a4 a5 ls (by omega) _ h2
    obtain ⟨k5, h5⟩ := bound_ev a0 a1 l2 a3 a4 a5 ls (by omega) ha
    obtain ⟨k6, h6⟩ := rbound_ev a0 a1 l2 a3 a4 a5 ls (by omega) ha
    obtain ⟨k7, h7⟩ := texts_ev (boundL [] ls) (by omega)
    obtain ⟨k1, h1⟩ := h1
    obtain ⟨k2, h2⟩ := h2
    exact ⟨K + k1 + k2 + k3 + k4 + k5 + k6 + k7, true, hK _ (by omega), fun _ => ⟨_, _, _, h1 _ (by omega), h2 _ (by omega), h3 _ (by omega), h4 _ (by omega), h5 _ (by omega), h6 _ (by omega), h7 _ (by omega)⟩⟩
end
end Go.Proofs.Ytdagpgccjamkmaa.G
