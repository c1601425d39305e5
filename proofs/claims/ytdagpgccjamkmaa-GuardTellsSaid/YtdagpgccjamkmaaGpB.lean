import Derived.Test.YtdagpgccjamkmaaGpA
import Derived.Test.YtdagpgccjamkmaaGx6
import Derived.Test.YtdagpgccjamkmaaGx53
/-! What the law's functions compute, as plain lists: the variables that are bound. -/
namespace Go.Proofs.Ytdagpgccjamkmaa.G
open Go.RowKit Go.Proofs.YtdagpgccjamkmaaW.PrintWords Go.Proofs.YtdagpgccjamkmaaW.PrintLast Go.Proofs.YtdagpgccjamkmaaW.PrintMore

theorem bound1 (ls : List S37) (i : Nat) (r : List ByteArray) (vs : List ByteArray) (hi : i < ls.length) (hs : ls.length ≤ 1000) (hv : vs.length ≤ 1000) : ∀ d j out, vs.length - j = d → j ≤ vs.length → out.length + d ≤ 1000000 →
    Ev (fun k => guard_Bound.l0 k (addL out (vs.drop j)) ls (ls.length : Int) ((i + 1 : Nat) : Int)) r →
    Ev (fun k => guard_Bound.l1 k out ls (ls.length : Int) (i : Int) vs (vs.length : Int) (j : Int)) r := by
  intro d
  induction d with
  | zero =>
    intro j out hd hj ho h
    have : j = vs.length := by omega
    subst this
    rw [List.drop_length] at h
    refine Ev.step (f := fun k => guard_Bound.l0 k out ls (ls.length : Int) ((i + 1 : Nat) : Int)) (fun k => ?_) h
    simp only [guard_Bound.l1]
    rw [if_neg (by omega), wrap_up (by omega)]
  | succ d ih =>
    intro j out hd hj ho h
    have hlt : j < vs.length := by omega
    rw [List.drop_eq_getElem_cons hlt] at h
    have hc := contains_ev out vs[j] (by omega)
    cases hb : hasL out vs[j] with
    | true =>
      rw [addL_yes hb] at h
      rw [hb] at hc
      refine Ev.step (f := fun k => (slices_Contains_string_string.f k out vs[j]).bind fun t => (if t = true then (guard_Bound.l1 k out ls (ls.length : Int) (i : Int) vs (vs.length : Int) ((j + 1 : Nat) : Int)) else (if out.length < 8796093022208 then (guard_Bound.l1 k (out ++ [vs[j]]) ls (ls.length : Int) (i : Int) vs (vs.length : Int) ((j + 1 : Nat) : Int)) else (none)))) (fun k => ?_) (Ev.bind hc ?_)
      · simp only [guard_Bound.l1]
        rw [if_pos (by omega), if_pos (by omega), if_pos (by omega), rd_at hlt, wrap_up (by omega)]
      · refine Ev.congr (f := fun k => guard_Bound.l1 k out ls (ls.length : Int) (i : Int) vs (vs.length : Int) ((j + 1 : Nat) : Int)) (fun k => if_pos rfl) ?_
        exact ih (j + 1) out (by omega) (by omega) (by omega) h
    | false =>
      rw [addL_no (by rw [hb]; decide)] at h
      rw [hb] at hc
      refine Ev.step (f := fun k => (slices_Contains_string_string.f k out vs[j]).bind fun t => (if t = true then (guard_Bound.l1 k out ls (ls.length : Int) (i : Int) vs (vs.length : Int) ((j + 1 : Nat) : Int)) else (if out.length < 8796093022208 then (guard_Bound.l1 k (out ++ [vs[j]]) ls (ls.length : Int) (i : Int) vs (vs.length : Int) ((j + 1 : Nat) : Int)) else (none)))) (fun k => ?_) (Ev.bind hc ?_)
      · simp only [guard_Bound.l1]
        rw [if_pos (by omega), if_pos (by omega), if_pos (by omega), rd_at hlt, wrap_up (by omega)]
      · refine Ev.congr (f := fun k => guard_Bound.l1 k (out ++ [vs[j]]) ls (ls.length : Int) (i : Int) vs (vs.length : Int) ((j + 1 : Nat) : Int)) (fun k => ?_) ?_
        · rw [if_neg (by decide), if_pos (by omega)]
        · exact ih (j + 1) (out ++ [vs[j]]) (by omega) (by omega) (by simp; omega) h

theorem boundL_cons (out : List ByteArray) (l : S37) (ls : List S37) : boundL out (l :: ls) = boundL (if atomL l then addL out (varsL l.f2) else out) ls := rfl

theorem bound_tells (ls : List S37) (hs : ls.length ≤ 1000) (ha : ∀ (i : Nat) (h : i < ls.length), ls[i].f2.length ≤ 100) : ∀ d i out, ls.length - i = d → i ≤ ls.length → out.length + 100 * d ≤ 200000 →
    Ev (fun k => guard_Bound.l0 k out ls (ls.length : Int) (i : Int)) (boundL out (ls.drop i)) := by
  intro d
  induction d with
  | zero =>
    intro i out hd hi ho
    have : i = ls.length := by omega
    subst this
    rw [List.drop_length]
    refine Ev.step (f := fun _ => some out) (fun k => ?_) (Ev.now _)
    simp only [guard_Bound.l0]
    rw [if_neg (by omega)]
  | succ d ih =>
    intro i out hd hi ho
    have hlt : i < ls.length := by omega
    rw [List.drop_eq_getElem_cons hlt, boundL_cons]
    have hal := ha i hlt
    cases hb : atomL ls[i] with
    | true =>
      have hv := vars_ev ls[i] (by omega)
      have hvl := varsL_length ls[i].f2
      have hal2 := addL_length (varsL ls[i].f2) out
      refine Ev.step (f := fun k => (guard_vars.f k ls[i].f0 ls[i].f1 ls[i].f2 ls[i].f3).bind fun t => guard_Bound.l1 k out ls (ls.length : Int) (i : Int) t (t.length : Int) 0) (fun k => ?_) (Ev.bind hv ?_)
      · simp only [guard_Bound.l0]
        rw [if_pos (by omega), if_pos (by omega), if_pos (by omega), rd37 hlt, binds_eq, hb]
        rfl
      · refine bound1 ls i _ (varsL ls[i].f2) hlt hs (by omega) _ 0 out rfl (by omega) (by omega) ?_
        exact ih (i + 1) (addL out (varsL ls[i].f2)) (by omega) (by omega) (by omega)
    | false =>
      refine Ev.step (f := fun k => guard_Bound.l0 k out ls (ls.length : Int) ((i + 1 : Nat) : Int)) (fun k => ?_) ?_
      · simp only [guard_Bound.l0]
        rw [if_pos (by omega), if_pos (by omega), if_pos (by omega), rd37 hlt, binds_eq, hb, wrap_up (by omega)]
        rfl
      · exact ih (i + 1) out (by omega) (by omega) (by omega)

theorem boundL_length (n : Nat) : ∀ (ls : List S37) (out : List ByteArray), (∀ l ∈ ls, l.f2.length ≤ n) → (boundL out ls).length ≤ out.length + n * ls.length := by
  intro ls
  induction ls with
  | nil => intro out _; exact Nat.le_add_right _ _
  | cons l ls ih =>
    intro out h
    rw [boundL_cons]
    refine Nat.le_trans (ih _ fun x hx => h x (List.mem_cons_of_mem _ hx)) ?_
    have h1 := h l List.mem_cons_self
    have h2 := varsL_length l.f2
    have h3 := addL_length (varsL l.f2) out
    have : (if atomL l = true then addL out (varsL l.f2) else out).length ≤ out.length + n := by split <;> omega
    rw [List.length_cons, Nat.mul_succ]
    omega

section
variable (a0 : Int) (a1 : ByteArray) (l2 : List ByteArray) (a3 : Int) (a4 : ByteArray) (a5 : Int)

theorem bound_ev (ls : List S37) (hs : ls.length ≤ 1000) (ha : ∀ (i : Nat) (h : i < ls.length), ls[i].f2.length ≤ 100) : Ev (fun k => guard_Bound.f k a0 a1 l2 a3 a4 a5 ls) (boundL [] ls) := by
  have h := bound_tells ls hs ha ls.length 0 [] (by omega) (by omega) (by simp; omega)
  exact h

theorem rbound1 (ls : List S37) (i : Nat) (r : List ByteArray) (hi : i < ls.length) (hs : ls.length ≤ 1000) (hv : ls[i].f2.length ≤ 1000) (hb : atomL ls[i] = true) : ∀ d j out, ls[i].f2.length - j = d → j ≤ ls[i].f2.length → out.length + d ≤ 1000000 →
    Ev (fun k => verdererref15_Bound.l0 k (addL out (varsL (ls[i].f2.drop j))) ((i + 1 : Nat) : Int) a0 a1 l2 a3 a4 a5 ls) r →
    Ev (fun k => verdererref15_Bound.l1 k out (i : Int) (j : Int) a0 a1 l2 a3 a4 a5 ls) r := by
  intro d
  induction d with
  | zero =>
    intro j out hd hj ho h
    have : j = ls[i].f2.length := by omega
    subst this
    rw [List.drop_length] at h
    refine Ev.step (f := fun k => verdererref15_Bound.j2 k out (i : Int) ((ls[i].f2.length : Nat) : Int) false a0 a1 l2 a3 a4 a5 ls) (fun k => ?_) (Ev.step (f := fun k => verdererref15_Bound.l0 k out ((i + 1 : Nat) : Int) a0 a1 l2 a3 a4 a5 ls) (fun k => ?_) h)
    · simp only [verdererref15_Bound.l1]
      rw [if_pos (by omega), if_pos (by omega), rd37 hi, if_neg (by omega)]
    · simp only [verdererref15_Bound.j2]
      rw [if_neg (by decide), wrap_up (by omega)]
  | succ d ih =>
    intro j out hd hj ho h
    have hlt : j < ls[i].f2.length := by omega
    rw [List.drop_eq_getElem_cons hlt] at h
    refine Ev.step (f := fun k => verdererref15_Bound.j2 k out (i : Int) (j : Int) true a0 a1 l2 a3 a4 a5 ls) (fun k => ?_) ?_
    · simp only [verdererref15_Bound.l1]
      rw [if_pos (by omega), if_pos (by omega), rd37 hi, if_pos (by omega), atom_eq, hb]
      rfl
    by_cases h1 : ls[i].f2[j].f1 = true
    · rw [varsL_no (by simp [isVar, h1])] at h
      refine Ev.step (f := fun k => verdererref15_Bound.l1 k out (i : Int) ((j + 1 : Nat) : Int) a0 a1 l2 a3 a4 a5 ls) (fun k => ?_) (ih (j + 1) out (by omega) (by omega) (by omega) h)
      simp only [verdererref15_Bound.j2]
      rw [if_pos trivial, if_pos (by omega), if_pos (by omega), if_pos (by omega), rd37 hi, if_pos (by omega), rd41 hlt, if_pos h1, wrap_up (by omega)]
    by_cases h2 : ls[i].f2[j].f0.toList = []
    · rw [varsL_no (by show (!ls[i].f2[j].f1 && !decide (ls[i].f2[j].f0.toList = [])) = false; rw [decide_eq_true h2, Bool.not_true, Bool.and_false])] at h
      refine Ev.step (f := fun k => verdererref15_Bound.l1 k out (i : Int) ((j + 1 : Nat) : Int) a0 a1 l2 a3 a4 a5 ls) (fun k => ?_) (ih (j + 1) out (by omega) (by omega) (by omega) h)
      simp only [verdererref15_Bound.j2]
      rw [if_pos trivial, if_pos (by omega), if_pos (by omega), if_pos (by omega), rd37 hi, if_pos (by omega), rd41 hlt, if_neg h1, if_pos h2, wrap_up (by omega)]
    rw [varsL_yes (by show (!ls[i].f2[j].f1 && !decide (ls[i].f2[j].f0.toList = [])) = true; rw [decide_eq_false h2, Bool.eq_false_iff.2 h1]; rfl)] at h
    have hc := has_ev out ls[i].f2[j].f0 (by omega)
    refine Ev.step (f := fun k => (verdererref15_has.f k out ls[i].f2[j].f0).bind fun t => (if t = true then (verdererref15_Bound.l1 k out (i : Int) ((j + 1 : Nat) : Int) a0 a1 l2 a3 a4 a5 ls) else (if out.length < 8796093022208 then (verdererref15_Bound.l1 k (out ++ [ls[i].f2[j].f0]) (i : Int) ((j + 1 : Nat) : Int) a0 a1 l2 a3 a4 a5 ls) else (none)))) (fun k => ?_) (Ev.bind hc ?_)
    · simp only [verdererref15_Bound.j2]
      rw [if_pos trivial, if_pos (by omega), if_pos (by omega), if_pos (by omega), rd37 hi, if_pos (by omega), rd41 hlt, if_neg h1, if_neg h2, wrap_up (by omega)]
    cases hh : hasL out ls[i].f2[j].f0 with
    | true =>
      rw [addL_yes hh] at h
      refine Ev.congr (f := fun k => verdererref15_Bound.l1 k out (i : Int) ((j + 1 : Nat) : Int) a0 a1 l2 a3 a4 a5 ls) (fun k => if_pos rfl) ?_
      exact ih (j + 1) out (by omega) (by omega) (by omega) h
    | false =>
      rw [addL_no (by rw [hh]; decide)] at h
      refine Ev.congr (f := fun k => verdererref15_Bound.l1 k (out ++ [ls[i].f2[j].f0]) (i : Int) ((j + 1 : Nat) : Int) a0 a1 l2 a3 a4 a5 ls) (fun k => ?_) ?_
      · rw [if_neg (by decide), if_pos (by omega)]
      · exact ih (j + 1) (out ++ [ls[i].f2[j].f0]) (by omega) (by omega) (by simp; omega) h

theorem rbound0 (ls : List S37) (i : Nat) (r : List ByteArray) (hi : i < ls.length) (hs : ls.length ≤ 1000) (hb : atomL ls[i] = false) (out : List ByteArray)
    (h : Ev (fun k => verdererref15_Bound.l0 k out ((i + 1 : Nat) : Int) a0 a1 l2 a3 a4 a5 ls) r) : Ev (fun k => verdererref15_Bound.l1 k out (i : Int) 0 a0 a1 l2 a3 a4 a5 ls) r := by
  refine Ev.step (f := fun k => verdererref15_Bound.j2 k out (i : Int) 0 false a0 a1 l2 a3 a4 a5 ls) (fun k => ?_) (Ev.step (f := fun k => verdererref15_Bound.l0 k out ((i + 1 : Nat) : Int) a0 a1 l2 a3 a4 a5 ls) (fun k => ?_) h)
  · simp only [verdererref15_Bound.l1]
    rw [if_pos (by omega), if_pos (by omega), rd37 hi, atom_eq, hb]
    split <;> rfl
  · simp only [verdererref15_Bound.j2]
    rw [if_neg (by decide), wrap_up (by omega)]

theorem rbound_tells (ls : List S37) (hs : ls.length ≤ 1000) (ha : ∀ (i : Nat) (h : i < ls.length), ls[i].f2.length ≤ 100) : ∀ d i out, ls.length - i = d → i ≤ ls.length → out.length + 100 * d ≤ 200000 →
    Ev (fun k => verdererref15_Bound.l0 k out (i : Int) a0 a1 l2 a3 a4 a5 ls) (boundL out (ls.drop i)) := by
  intro d
  induction d with
  | zero =>
    intro i out hd hi ho
    have : i = ls.length := by omega
    subst this
    rw [List.drop_length]
    refine Ev.step (f := fun _ => some out) (fun k => ?_) (Ev.now _)
    simp only [verdererref15_Bound.l0]
    rw [if_neg (by omega)]
  | succ d ih =>
    intro i out hd hi ho
    have hlt : i < ls.length := by omega
    rw [List.drop_eq_getElem_cons hlt, boundL_cons]
    have hal := ha i hlt
    refine Ev.step (f := fun k => verdererref15_Bound.l1 k out (i : Int) 0 a0 a1 l2 a3 a4 a5 ls) (fun k => ?_) ?_
    · simp only [verdererref15_Bound.l0]
      rw [if_pos (by omega)]
    cases hb : atomL ls[i] with
    | true =>
      have hvl := varsL_length ls[i].f2
      have hal2 := addL_length (varsL ls[i].f2) out
      refine rbound1 a0 a1 l2 a3 a4 a5 ls i _ hlt hs (by omega) hb _ 0 out rfl (by omega) (by omega) ?_
      exact ih (i + 1) (addL out (varsL ls[i].f2)) (by omega) (by omega) (by omega)
    | false =>
      exact rbound0 a0 a1 l2 a3 a4 a5 ls i _ hlt hs hb out (ih (i + 1) out (by omega) (by omega) (by omega))

theorem rbound_ev (ls : List S37) (hs : ls.length ≤ 1000) (ha : ∀ (i : Nat) (h : i < ls.length), ls[i].f2.length ≤ 100) : Ev (fun k => verdererref15_Bound.f k a0 a1 l2 a3 a4 a5 ls) (boundL [] ls) := by
  have h := rbound_tells a0 a1 l2 a3 a4 a5 ls hs ha ls.length 0 [] (by omega) (by omega) (by simp; omega)
  exact h
end
end Go.Proofs.Ytdagpgccjamkmaa.G
