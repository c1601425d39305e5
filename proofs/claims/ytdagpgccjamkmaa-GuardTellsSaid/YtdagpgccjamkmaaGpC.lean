import Derived.Test.YtdagpgccjamkmaaGpB
import Derived.Test.YtdagpgccjamkmaaGx12
import Derived.Test.YtdagpgccjamkmaaGx55
/-! What the law's functions compute, as plain lists: the first variable that is not bound. -/
namespace Go.Proofs.Ytdagpgccjamkmaa.G
open Go.RowKit Go.Proofs.YtdagpgccjamkmaaW.PrintWords Go.Proofs.YtdagpgccjamkmaaW.PrintLast Go.Proofs.YtdagpgccjamkmaaW.PrintMore

/-- The first text that is none of some. -/
def outL (b : List ByteArray) : List ByteArray → Option ByteArray
  | [] => none
  | v :: vs => if hasL b v then outL b vs else some v
theorem outL_yes {b vs : List ByteArray} {v : ByteArray} (h : hasL b v = true) : outL b (v :: vs) = outL b vs := by
  show (if hasL b v then outL b vs else some v) = _
  rw [if_pos h]
theorem outL_no {b vs : List ByteArray} {v : ByteArray} (h : ¬ hasL b v = true) : outL b (v :: vs) = some v := by
  show (if hasL b v then outL b vs else some v) = _
  rw [if_neg h]
theorem outL_append (b : List ByteArray) : ∀ (xs ys : List ByteArray), outL b (xs ++ ys) = (outL b xs).or (outL b ys) := by
  intro xs
  induction xs with
  | nil => intro ys; rfl
  | cons x xs ih =>
    intro ys
    rw [List.cons_append]
    by_cases h : hasL b x = true
    · rw [outL_yes h, outL_yes h, ih]
    · rw [outL_no h, outL_no h]; rfl

/-- The first of the literals from the i-th on that asks what is not bound. -/
def litsL (b : List ByteArray) : Nat → List S37 → ByteArray × Int × Bool
  | _, [] => ((⟨#[]⟩ : ByteArray), 0, false)
  | i, l :: ls => if atomL l then litsL b (i + 1) ls else match outL b (varsL l.f2) with
    | some v => (v, (i : Int), true)
    | none => litsL b (i + 1) ls

theorem litsL_atom {b : List ByteArray} {i : Nat} {l : S37} {ls : List S37} (h : atomL l = true) : litsL b i (l :: ls) = litsL b (i + 1) ls := by
  rw [litsL, if_pos h]
theorem litsL_some {b : List ByteArray} {i : Nat} {l : S37} {ls : List S37} {v : ByteArray} (h : atomL l = false) (hv : outL b (varsL l.f2) = some v) : litsL b i (l :: ls) = (v, (i : Int), true) := by
  rw [litsL, if_neg (by rw [h]; decide), hv]
theorem litsL_none {b : List ByteArray} {i : Nat} {l : S37} {ls : List S37} (h : atomL l = false) (hv : outL b (varsL l.f2) = none) : litsL b i (l :: ls) = litsL b (i + 1) ls := by
  rw [litsL, if_neg (by rw [h]; decide), hv]

/-- What is asked by what the rule tells. -/
def toldL (head : List ByteArray) (agg : Int) (on : ByteArray) : List ByteArray := head ++ (if 2 ≤ agg ∧ agg ≤ 4 then [on] else [])
/-- The first variable that is not bound. -/
def freeL (b head : List ByteArray) (agg : Int) (on : ByteArray) (ls : List S37) : ByteArray × Int × Bool :=
  match outL b (toldL head agg on) with
  | some v => (v, -1, true)
  | none => litsL b 0 ls

theorem told_eq (a0 : Int) (a1 : ByteArray) (l2 : List ByteArray) (a3 : Int) (a4 : ByteArray) (a5 : Int) (ls : List S37) (h : l2.length ≤ 1000) : guard_told.f a0 a1 l2 a3 a4 a5 ls = some (toldL l2 a3 a4) := by
  have hc : slices_Clone_string_string.f l2 = some l2 := by
    show (if ([] : List ByteArray).length + l2.length < 8796093022208 then some ([] ++ l2) else none) = _
    rw [if_pos (by simp; omega)]; rfl
  unfold guard_told.f toldL
  rw [hc]
  show (if a3 ≥ 2 then (if a3 ≤ 4 then (if l2.length < 8796093022208 then (some (l2 ++ [a4])) else (none)) else (some l2)) else (some l2)) = _
  rw [if_pos (c := l2.length < 8796093022208) (by omega)]
  by_cases h1 : a3 ≥ 2
  · by_cases h2 : a3 ≤ 4
    · rw [if_pos h1, if_pos h2, if_pos ⟨h1, h2⟩]
    · rw [if_pos h1, if_neg h2, if_neg (fun c => h2 c.2), List.append_nil]
  · rw [if_neg h1, if_neg (fun c => h1 c.1), List.append_nil]

theorem toldL_length (l2 : List ByteArray) (a3 : Int) (a4 : ByteArray) : (toldL l2 a3 a4).length ≤ l2.length + 1 := by
  unfold toldL
  split <;> simp

theorem free2 (b : List ByteArray) (hb : b.length ≤ 1000000) (n0 : ByteArray) (z : Int) (f : Bool) (ls : List S37) (i : Nat) (hi : i < ls.length) (hs : ls.length ≤ 1000) (r : ByteArray × Int × Bool) (vs : List ByteArray) (hv : vs.length ≤ 1000) : ∀ d j, vs.length - j = d → j ≤ vs.length →
    (∀ v, outL b (vs.drop j) = some v → r = (v, (i : Int), true)) →
    (outL b (vs.drop j) = none → Ev (fun k => guard_Free.l1 k b n0 z f ls (ls.length : Int) ((i + 1 : Nat) : Int)) r) →
    Ev (fun k => guard_Free.l2 k b n0 z f (i : Int) ls (ls.length : Int) (i : Int) vs (vs.length : Int) (j : Int)) r := by
  intro d
  induction d with
  | zero =>
    intro j hd hj h1 h2
    have : j = vs.length := by omega
    subst this
    refine Ev.step (f := fun k => guard_Free.l1 k b n0 z f ls (ls.length : Int) ((i + 1 : Nat) : Int)) (fun k => ?_) (h2 (by rw [List.drop_length]; rfl))
    simp only [guard_Free.l2]
    rw [if_neg (by omega), wrap_up (by omega)]
  | succ d ih =>
    intro j hd hj h1 h2
    have hlt : j < vs.length := by omega
    rw [List.drop_eq_getElem_cons hlt] at h1 h2
    have hc := contains_ev b vs[j] (by omega)
    refine Ev.step (f := fun k => (slices_Contains_string_string.f k b vs[j]).bind fun t => (if t = true then (guard_Free.l2 k b n0 z f (i : Int) ls (ls.length : Int) (i : Int) vs (vs.length : Int) ((j + 1 : Nat) : Int)) else (some (vs[j], (i : Int), true)))) (fun k => ?_) (Ev.bind hc ?_)
    · simp only [guard_Free.l2]
      rw [if_pos (by omega), if_pos (by omega), if_pos (by omega), rd_at hlt, wrap_up (by omega)]
    by_cases hh : hasL b vs[j] = true
    · rw [outL_yes hh] at h1 h2
      refine Ev.congr (f := fun k => guard_Free.l2 k b n0 z f (i : Int) ls (ls.length : Int) (i : Int) vs (vs.length : Int) ((j + 1 : Nat) : Int)) (fun k => if_pos hh) ?_
      exact ih (j + 1) (by omega) (by omega) h1 h2
    · rw [outL_no hh] at h1
      rw [h1 _ rfl]
      exact Ev.congr (f := fun _ => some (vs[j], (i : Int), true)) (fun k => if_neg hh) (Ev.now _)

theorem free1 (b : List ByteArray) (hb : b.length ≤ 1000000) (ls : List S37) (hs : ls.length ≤ 1000) (ha : ∀ (i : Nat) (h : i < ls.length), ls[i].f2.length ≤ 100) : ∀ d i, ls.length - i = d → i ≤ ls.length →
    Ev (fun k => guard_Free.l1 k b (⟨#[]⟩ : ByteArray) 0 false ls (ls.length : Int) (i : Int)) (litsL b i (ls.drop i)) := by
  intro d
  induction d with
  | zero =>
    intro i hd hi
    have : i = ls.length := by omega
    subst this
    rw [List.drop_length]
    refine Ev.step (f := fun _ => some ((⟨#[]⟩ : ByteArray), (0 : Int), false)) (fun k => ?_) (Ev.now _)
    simp only [guard_Free.l1]
    rw [if_neg (by omega)]
  | succ d ih =>
    intro i hd hi
    have hlt : i < ls.length := by omega
    rw [List.drop_eq_getElem_cons hlt]
    have hal := ha i hlt
    cases hb2 : atomL ls[i] with
    | true =>
      rw [litsL_atom hb2]
      refine Ev.step (f := fun k => guard_Free.l1 k b (⟨#[]⟩ : ByteArray) 0 false ls (ls.length : Int) ((i + 1 : Nat) : Int)) (fun k => ?_) (ih (i + 1) (by omega) (by omega))
      simp only [guard_Free.l1]
      rw [if_pos (by omega), if_pos (by omega), if_pos (by omega), rd37 hlt, binds_eq, hb2, wrap_up (by omega)]
      rfl
    | false =>
      have hv := vars_ev ls[i] (by omega)
      have hvl := varsL_length ls[i].f2
      refine Ev.step (f := fun k => (guard_vars.f k ls[i].f0 ls[i].f1 ls[i].f2 ls[i].f3).bind fun t => guard_Free.l2 k b (⟨#[]⟩ : ByteArray) 0 false (i : Int) ls (ls.length : Int) (i : Int) t (t.length : Int) 0) (fun k => ?_) (Ev.bind hv ?_)
      · simp only [guard_Free.l1]
        rw [if_pos (by omega), if_pos (by omega), if_pos (by omega), rd37 hlt, binds_eq, hb2]
        rfl
      · refine free2 b hb _ 0 false ls i hlt hs _ (varsL ls[i].f2) (by omega) _ 0 rfl (by omega) (fun v hv => ?_) (fun hv => ?_)
        · exact litsL_some hb2 hv
        · rw [litsL_none hb2 hv]
          exact ih (i + 1) (by omega) (by omega)

section
variable (a0 : Int) (a1 : ByteArray) (l2 : List ByteArray) (a3 : Int) (a4 : ByteArray) (a5 : Int)

theorem free0 (b : List ByteArray) (hb : b.length ≤ 1000000) (ls : List S37) (r : ByteArray × Int × Bool) (vs : List ByteArray) (hv : vs.length ≤ 2000) (h3 : outL b vs = none → Ev (fun k => guard_Free.l1 k b (⟨#[]⟩ : ByteArray) 0 false ls (ls.length : Int) 0) r) : ∀ d j, vs.length - j = d → j ≤ vs.length →
    outL b vs = outL b (vs.drop j) → (∀ v, outL b vs = some v → r = (v, -1, true)) →
    Ev (fun k => guard_Free.l0 k b vs (vs.length : Int) (j : Int) a0 a1 l2 a3 a4 a5 ls) r := by
  intro d
  induction d with
  | zero =>
    intro j hd hj h0 h1
    have : j = vs.length := by omega
    subst this
    refine Ev.step (f := fun k => guard_Free.l1 k b (⟨#[]⟩ : ByteArray) 0 false ls (ls.length : Int) 0) (fun k => ?_) (h3 (by rw [h0, List.drop_length]; rfl))
    simp only [guard_Free.l0]
    rw [if_neg (by omega)]
  | succ d ih =>
    intro j hd hj h0 h1
    have hlt : j < vs.length := by omega
    rw [List.drop_eq_getElem_cons hlt] at h0
    have hc := contains_ev b vs[j] (by omega)
    refine Ev.step (f := fun k => (slices_Contains_string_string.f k b vs[j]).bind fun t => (if t = true then (guard_Free.l0 k b vs (vs.length : Int) ((j + 1 : Nat) : Int) a0 a1 l2 a3 a4 a5 ls) else (some (vs[j], (-1), true)))) (fun k => ?_) (Ev.bind hc ?_)
    · simp only [guard_Free.l0]
      rw [if_pos (by omega), if_pos (by omega), if_pos (by omega), rd_at hlt, wrap_up (by omega)]
    by_cases hh : hasL b vs[j] = true
    · rw [outL_yes hh] at h0
      refine Ev.congr (f := fun k => guard_Free.l0 k b vs (vs.length : Int) ((j + 1 : Nat) : Int) a0 a1 l2 a3 a4 a5 ls) (fun k => if_pos hh) ?_
      exact ih (j + 1) (by omega) (by omega) h0 h1
    · rw [outL_no hh] at h0
      rw [h1 _ h0]
      exact Ev.congr (f := fun _ => some (vs[j], (-1 : Int), true)) (fun k => if_neg hh) (Ev.now _)

theorem free_ev (ls : List S37) (hl : l2.length ≤ 1000) (hs : ls.length ≤ 1000) (ha : ∀ (i : Nat) (h : i < ls.length), ls[i].f2.length ≤ 100) (hbl : (boundL [] ls).length ≤ 1000000) : Ev (fun k => guard_Free.f k a0 a1 l2 a3 a4 a5 ls) (freeL (boundL [] ls) l2 a3 a4 ls) := by
  refine Ev.bind (f := fun k t => (guard_told.f a0 a1 l2 a3 a4 a5 ls).bind fun t2 => guard_Free.l0 k t t2 (t2.length : Int) 0 a0 a1 l2 a3 a4 a5 ls) (bound_ev a0 a1 l2 a3 a4 a5 ls hs ha) ?_
  refine Ev.congr (f := fun k => guard_Free.l0 k (boundL [] ls) (toldL l2 a3 a4) ((toldL l2 a3 a4).length : Int) 0 a0 a1 l2 a3 a4 a5 ls) (fun k => by rw [told_eq _ _ _ _ _ _ _ hl]; rfl) ?_
  have ht := toldL_length l2 a3 a4
  refine free0 a0 a1 l2 a3 a4 a5 (boundL [] ls) hbl ls _ (toldL l2 a3 a4) (by omega) (fun h => ?_) _ 0 rfl (by omega) rfl (fun v hv => ?_)
  · unfold freeL
    rw [h]
    exact free1 (boundL [] ls) hbl ls hs ha ls.length 0 (by omega) (by omega)
  · unfold freeL
    rw [hv]

theorem rfree2 (b : List ByteArray) (hb : b.length ≤ 1000000) (ls : List S37) (i : Nat) (hi : i < ls.length) (hs : ls.length ≤ 1000) (r : ByteArray × Int × Bool) (hv : ls[i].f2.length ≤ 1000) (hat : atomL ls[i] = false) : ∀ d j, ls[i].f2.length - j = d → j ≤ ls[i].f2.length →
    (∀ v, outL b (varsL (ls[i].f2.drop j)) = some v → r = (v, (i : Int), true)) →
    (outL b (varsL (ls[i].f2.drop j)) = none → Ev (fun k => verdererref15_Free.l1 k b ((i + 1 : Nat) : Int) a0 a1 l2 a3 a4 a5 ls) r) →
    Ev (fun k => verdererref15_Free.l2 k b (i : Int) (j : Int) a0 a1 l2 a3 a4 a5 ls) r := by
  intro d
  induction d with
  | zero =>
    intro j hd hj h1 h2
    have : j = ls[i].f2.length := by omega
    subst this
    refine Ev.step (f := fun k => verdererref15_Free.j4 k b (i : Int) ((ls[i].f2.length : Nat) : Int) false a0 a1 l2 a3 a4 a5 ls) (fun k => ?_) (Ev.step (f := fun k => verdererref15_Free.l1 k b ((i + 1 : Nat) : Int) a0 a1 l2 a3 a4 a5 ls) (fun k => ?_) (h2 (by rw [List.drop_length]; rfl)))
    · simp only [verdererref15_Free.l2]
      rw [if_pos (by omega), if_pos (by omega), rd37 hi, if_neg (by omega)]
    · simp only [verdererref15_Free.j4]
      rw [if_neg (by decide), wrap_up (by omega)]
  | succ d ih =>
    intro j hd hj h1 h2
    have hlt : j < ls[i].f2.length := by omega
    rw [List.drop_eq_getElem_cons hlt] at h1 h2
    refine Ev.step (f := fun k => verdererref15_Free.j4 k b (i : Int) (j : Int) true a0 a1 l2 a3 a4 a5 ls) (fun k => ?_) ?_
    · simp only [verdererref15_Free.l2]
      rw [if_pos (by omega), if_pos (by omega), rd37 hi, if_pos (by omega), atom_eq, hat]
      rfl
    by_cases g1 : ls[i].f2[j].f1 = true
    · rw [varsL_no (by simp [isVar, g1])] at h1 h2
      refine Ev.step (f := fun k => verdererref15_Free.l2 k b (i : Int) ((j + 1 : Nat) : Int) a0 a1 l2 a3 a4 a5 ls) (fun k => ?_) (ih (j + 1) (by omega) (by omega) h1 h2)
      simp only [verdererref15_Free.j4]
      rw [if_pos trivial, if_pos (by omega), if_pos (by omega), if_pos (by omega), rd37 hi, if_pos (by omega), rd41 hlt, if_pos g1, wrap_up (by omega)]
    by_cases g2 : ls[i].f2[j].f0.toList = []
    · rw [varsL_no (by show (!ls[i].f2[j].f1 && !decide (ls[i].f2[j].f0.toList = [])) = false; rw [decide_eq_true g2, Bool.not_true, Bool.and_false])] at h1 h2
      refine Ev.step (f := fun k => verdererref15_Free.l2 k b (i : Int) ((j + 1 : Nat) : Int) a0 a1 l2 a3 a4 a5 ls) (fun k => ?_) (ih (j + 1) (by omega) (by omega) h1 h2)
      simp only [verdererref15_Free.j4]
      rw [if_pos trivial, if_pos (by omega), if_pos (by omega), if_pos (by omega), rd37 hi, if_pos (by omega), rd41 hlt, if_neg g1, if_pos g2, wrap_up (by omega)]
    rw [varsL_yes (by show (!ls[i].f2[j].f1 && !decide (ls[i].f2[j].f0.toList = [])) = true; rw [decide_eq_false g2, Bool.eq_false_iff.2 g1]; rfl)] at h1 h2
    have hc := has_ev b ls[i].f2[j].f0 (by omega)
    refine Ev.step (f := fun k => (verdererref15_has.f k b ls[i].f2[j].f0).bind fun t => (if t = true then (verdererref15_Free.l2 k b (i : Int) ((j + 1 : Nat) : Int) a0 a1 l2 a3 a4 a5 ls) else (some (ls[i].f2[j].f0, (i : Int), true)))) (fun k => ?_) (Ev.bind hc ?_)
    · simp only [verdererref15_Free.j4]
      rw [if_pos trivial, if_pos (by omega), if_pos (by omega), if_pos (by omega), rd37 hi, if_pos (by omega), rd41 hlt, if_neg g1, if_neg g2, wrap_up (by omega)]
    by_cases hh : hasL b ls[i].f2[j].f0 = true
    · rw [outL_yes hh] at h1 h2
      refine Ev.congr (f := fun k => verdererref15_Free.l2 k b (i : Int) ((j + 1 : Nat) : Int) a0 a1 l2 a3 a4 a5 ls) (fun k => if_pos hh) ?_
      exact ih (j + 1) (by omega) (by omega) h1 h2
    · rw [outL_no hh] at h1
      rw [h1 _ rfl]
      exact Ev.congr (f := fun _ => some (ls[i].f2[j].f0, (i : Int), true)) (fun k => if_neg hh) (Ev.now _)

theorem rfree1 (b : List ByteArray) (hb : b.length ≤ 1000000) (ls : List S37) (hs : ls.length ≤ 1000) (ha : ∀ (i : Nat) (h : i < ls.length), ls[i].f2.length ≤ 100) : ∀ d i, ls.length - i = d → i ≤ ls.length →
    Ev (fun k => verdererref15_Free.l1 k b (i : Int) a0 a1 l2 a3 a4 a5 ls) (litsL b i (ls.drop i)) := by
  intro d
  induction d with
  | zero =>
    intro i hd hi
    have : i = ls.length := by omega
    subst this
    rw [List.drop_length]
    refine Ev.step (f := fun _ => some ((⟨#[]⟩ : ByteArray), (0 : Int), false)) (fun k => ?_) (Ev.now _)
    simp only [verdererref15_Free.l1]
    rw [if_neg (by omega)]
  | succ d ih =>
    intro i hd hi
    have hlt : i < ls.length := by omega
    rw [List.drop_eq_getElem_cons hlt]
    have hal := ha i hlt
    refine Ev.step (f := fun k => verdererref15_Free.l2 k b (i : Int) 0 a0 a1 l2 a3 a4 a5 ls) (fun k => ?_) ?_
    · simp only [verdererref15_Free.l1]
      rw [if_pos (by omega)]
    cases hb2 : atomL ls[i] with
    | true =>
      rw [litsL_atom hb2]
      refine Ev.step (f := fun k => verdererref15_Free.j4 k b (i : Int) 0 false a0 a1 l2 a3 a4 a5 ls) (fun k => ?_) (Ev.step (f := fun k => verdererref15_Free.l1 k b ((i + 1 : Nat) : Int) a0 a1 l2 a3 a4 a5 ls) (fun k => ?_) (ih (i + 1) (by omega) (by omega)))
      · simp only [verdererref15_Free.l2]
        rw [if_pos (by omega), if_pos (by omega), rd37 hlt, atom_eq, hb2]
        split <;> rfl
      · simp only [verdererref15_Free.j4]
        rw [if_neg (by decide), wrap_up (by omega)]
    | false =>
      refine rfree2 a0 a1 l2 a3 a4 a5 b hb ls i hlt hs _ (by omega) hb2 _ 0 rfl (by omega) (fun v hv => ?_) (fun hv => ?_)
      · exact litsL_some hb2 hv
      · rw [litsL_none hb2 hv]
        exact ih (i + 1) (by omega) (by omega)

theorem rfree0 (b : List ByteArray) (hb : b.length ≤ 1000000) (ls : List S37) (hl : l2.length ≤ 1000) (r : ByteArray × Int × Bool) (h3 : outL b l2 = none → Ev (fun k => verdererref15_Free.l0 k b ((l2.length : Nat) : Int) a0 a1 l2 a3 a4 a5 ls) r) : ∀ d j, l2.length - j = d → j ≤ l2.length →
    outL b l2 = outL b (l2.drop j) → (∀ v, outL b l2 = some v → r = (v, -1, true)) →
    Ev (fun k => verdererref15_Free.l0 k b (j : Int) a0 a1 l2 a3 a4 a5 ls) r := by
  intro d
  induction d with
  | zero =>
    intro j hd hj h0 h1
    have : j = l2.length := by omega
    subst this
    exact h3 (by rw [h0, List.drop_length]; rfl)
  | succ d ih =>
    intro j hd hj h0 h1
    have hlt : j < l2.length := by omega
    rw [List.drop_eq_getElem_cons hlt] at h0
    have hc := has_ev b l2[j] (by omega)
    refine Ev.step (f := fun k => (verdererref15_has.f k b l2[j]).bind fun t => (if t = true then (verdererref15_Free.l0 k b ((j + 1 : Nat) : Int) a0 a1 l2 a3 a4 a5 ls) else (some (l2[j], (-1), true)))) (fun k => ?_) (Ev.bind hc ?_)
    · simp only [verdererref15_Free.l0]
      rw [if_pos (by omega), if_pos (by omega), rd_at hlt, wrap_up (by omega)]
    by_cases hh : hasL b l2[j] = true
    · rw [outL_yes hh] at h0
      refine Ev.congr (f := fun k => verdererref15_Free.l0 k b ((j + 1 : Nat) : Int) a0 a1 l2 a3 a4 a5 ls) (fun k => if_pos hh) ?_
      exact ih (j + 1) (by omega) (by omega) h0 h1
    · rw [outL_no hh] at h0
      rw [h1 _ h0]
      exact Ev.congr (f := fun _ => some (l2[j], (-1 : Int), true)) (fun k => if_neg hh) (Ev.now _)

theorem rfree_ev (ls : List S37) (hl : l2.length ≤ 1000) (hs : ls.length ≤ 1000) (ha : ∀ (i : Nat) (h : i < ls.length), ls[i].f2.length ≤ 100) (hbl : (boundL [] ls).length ≤ 1000000) : Ev (fun k => verdererref15_Free.f k a0 a1 l2 a3 a4 a5 ls) (freeL (boundL [] ls) l2 a3 a4 ls) := by
  refine Ev.bind (f := fun k t => verdererref15_Free.l0 k t 0 a0 a1 l2 a3 a4 a5 ls) (rbound_ev a0 a1 l2 a3 a4 a5 ls hs ha) ?_
  have hj : Ev (fun k => verdererref15_Free.j1 k (boundL [] ls) false a0 a1 l2 a3 a4 a5 ls) (litsL (boundL [] ls) 0 ls) := by
    refine Ev.step (f := fun k => verdererref15_Free.l1 k (boundL [] ls) 0 a0 a1 l2 a3 a4 a5 ls) (fun k => ?_) (rfree1 a0 a1 l2 a3 a4 a5 (boundL [] ls) hbl ls hs ha ls.length 0 (by omega) (by omega))
    simp only [verdererref15_Free.j1]
    rw [if_neg (by decide)]
  refine rfree0 a0 a1 l2 a3 a4 a5 (boundL [] ls) hbl ls hl _ (fun h => ?_) _ 0 rfl (by omega) rfl (fun v hv => ?_)
  · unfold freeL toldL
    rw [outL_append, h, Option.none_or]
    by_cases h1 : a3 ≥ 2
    · by_cases h2 : a3 ≤ 4
      · rw [if_pos ⟨h1, h2⟩]
        have hc := has_ev (boundL [] ls) a4 (by omega)
        refine Ev.step (f := fun k => (verdererref15_has.f k (boundL [] ls) a4).bind fun t => verdererref15_Free.j1 k (boundL [] ls) (!t) a0 a1 l2 a3 a4 a5 ls) (fun k => ?_) (Ev.bind hc ?_)
        · simp only [verdererref15_Free.l0]
          rw [if_neg (by omega), if_pos h1, if_pos h2]
        by_cases hh : hasL (boundL [] ls) a4 = true
        · rw [outL_yes hh, hh]
          exact hj
        · rw [outL_no hh, Bool.eq_false_iff.2 hh]
          refine Ev.step (f := fun _ => some (a4, (-1 : Int), true)) (fun k => ?_) (Ev.now _)
          simp only [verdererref15_Free.j1]
          rw [if_pos (by decide)]
      · rw [if_neg (fun c => h2 c.2)]
        refine Ev.step (f := fun k => verdererref15_Free.j1 k (boundL [] ls) false a0 a1 l2 a3 a4 a5 ls) (fun k => ?_) hj
        simp only [verdererref15_Free.l0]
        rw [if_neg (by omega), if_pos h1, if_neg h2]
    · rw [if_neg (fun c => h1 c.1)]
      refine Ev.step (f := fun k => verdererref15_Free.j1 k (boundL [] ls) false a0 a1 l2 a3 a4 a5 ls) (fun k => ?_) hj
      simp only [verdererref15_Free.l0]
      rw [if_neg (by omega), if_neg h1]
  · unfold freeL toldL
    rw [outL_append, hv, Option.some_or]
end
end Go.Proofs.Ytdagpgccjamkmaa.G
