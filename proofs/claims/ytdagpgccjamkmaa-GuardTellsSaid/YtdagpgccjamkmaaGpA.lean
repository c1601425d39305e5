import Derived.Test.YtdagpgccjamkmaaGx3
import Derived.Test.YtdagpgccjamkmaaGx51
import Derived.Test.YtdagpgccjamkmaaGx56
import Derived.Test.YtdagpgccjamkmaaGx5
import Derived.Test.YtdagpgccjamkmaaGx4
import Derived.Test.YtdagpgccjamkmaaGx52
/-! What the law's functions compute, as plain lists: texts. -/
namespace Go.Proofs.Ytdagpgccjamkmaa.G
open Go.RowKit Go.Proofs.YtdagpgccjamkmaaW.PrintWords Go.Proofs.YtdagpgccjamkmaaW.PrintLast Go.Proofs.YtdagpgccjamkmaaW.PrintMore

theorem wrap_up {i : Nat} (h : i < 4611686018427387904) : wrap64 ((i : Int) + 1) = ((i + 1 : Nat) : Int) := by
  unfold wrap64
  omega

/-- A text is one of some. -/
def hasL (xs : List ByteArray) (s : ByteArray) : Bool := xs.any fun t => decide (t.toList = s.toList)

theorem hasL_cons (t : ByteArray) (ts : List ByteArray) (s : ByteArray) : hasL (t :: ts) s = (decide (t.toList = s.toList) || hasL ts s) := rfl
theorem hasL_yes {t s : ByteArray} {ts : List ByteArray} (h : t.toList = s.toList) : hasL (t :: ts) s = true := by
  rw [hasL_cons, decide_eq_true h]; rfl
theorem hasL_no {t s : ByteArray} {ts : List ByteArray} (h : ¬ t.toList = s.toList) : hasL (t :: ts) s = hasL ts s := by
  rw [hasL_cons, decide_eq_false h]; rfl

theorem rd_at {xs : List ByteArray} {i : Nat} (h : i < xs.length) : rdOf ByteArray.empty xs (i : Int) = xs[i] := by
  unfold rdOf
  simp [h]

theorem has_tells (xs : List ByteArray) (s : ByteArray) (hn : xs.length < 4611686018427387904) : ∀ d i, xs.length - i = d → i ≤ xs.length →
    Ev (fun k => verdererref15_has.l0 k xs s (i : Int)) (hasL (xs.drop i) s) := by
  intro d
  induction d with
  | zero =>
    intro i hd hi
    have : i = xs.length := by omega
    subst this
    refine Ev.step (f := fun _ => some false) (fun k => ?_) ?_
    · simp only [verdererref15_has.l0]
      rw [if_neg (by omega)]
    · rw [List.drop_length]; exact Ev.now _
  | succ d ih =>
    intro i hd hi
    have hlt : i < xs.length := by omega
    have h := ih (i + 1) (by omega) (by omega)
    rw [List.drop_eq_getElem_cons hlt]
    by_cases he : xs[i].toList = s.toList
    · refine Ev.step (f := fun _ => some true) (fun k => ?_) ?_
      · simp only [verdererref15_has.l0]
        rw [if_pos (by omega), if_pos (by omega), rd_at hlt, if_pos he]
      · have : hasL (xs[i] :: xs.drop (i + 1)) s = true := hasL_yes he
        rw [this]; exact Ev.now _
    · refine Ev.step (f := fun k => verdererref15_has.l0 k xs s ((i + 1 : Nat) : Int)) (fun k => ?_) ?_
      · simp only [verdererref15_has.l0]
        rw [if_pos (by omega), if_pos (by omega), rd_at hlt, if_neg he, wrap_up (by omega)]
      · have : hasL (xs[i] :: xs.drop (i + 1)) s = hasL (xs.drop (i + 1)) s := hasL_no he
        rw [this]; exact h

theorem has_ev (xs : List ByteArray) (s : ByteArray) (hn : xs.length < 4611686018427387904) : Ev (fun k => verdererref15_has.f k xs s) (hasL xs s) := by
  have h := has_tells xs s hn xs.length 0 (by omega) (by omega)
  exact h

theorem index_tells (xs : List ByteArray) (s : ByteArray) (hn : xs.length < 4611686018427387904) : ∀ d i, xs.length - i = d → i ≤ xs.length →
    ∃ r, Ev (fun k => slices_Index_string_string.l0 k xs s (xs.length : Int) (i : Int)) r ∧ decide (r ≥ 0) = hasL (xs.drop i) s := by
  intro d
  induction d with
  | zero =>
    intro i hd hi
    have : i = xs.length := by omega
    subst this
    refine ⟨-1, Ev.step (f := fun _ => some (-1)) (fun k => ?_) (Ev.now _), ?_⟩
    · simp only [slices_Index_string_string.l0]
      rw [if_neg (by omega)]
    · rw [List.drop_length]; rfl
  | succ d ih =>
    intro i hd hi
    have hlt : i < xs.length := by omega
    obtain ⟨r, h, hr⟩ := ih (i + 1) (by omega) (by omega)
    rw [List.drop_eq_getElem_cons hlt]
    by_cases he : xs[i].toList = s.toList
    · refine ⟨i, Ev.step (f := fun _ => some (i : Int)) (fun k => ?_) (Ev.now _), ?_⟩
      · simp only [slices_Index_string_string.l0]
        rw [if_pos (by omega), if_pos (by omega), if_pos (by omega), rd_at hlt, if_pos he.symm]
      · have : hasL (xs[i] :: xs.drop (i + 1)) s = true := hasL_yes he
        rw [this]; exact decide_eq_true (by omega)
    · refine ⟨r, Ev.step (f := fun k => slices_Index_string_string.l0 k xs s (xs.length : Int) ((i + 1 : Nat) : Int)) (fun k => ?_) h, ?_⟩
      · simp only [slices_Index_string_string.l0]
        rw [if_pos (by omega), if_pos (by omega), if_pos (by omega), rd_at hlt, if_neg (fun e => he e.symm), wrap_up (by omega)]
      · have : hasL (xs[i] :: xs.drop (i + 1)) s = hasL (xs.drop (i + 1)) s := hasL_no he
        rw [this]; exact hr

theorem contains_ev (xs : List ByteArray) (s : ByteArray) (hn : xs.length < 4611686018427387904) : Ev (fun k => slices_Contains_string_string.f k xs s) (hasL xs s) := by
  obtain ⟨r, h, hr⟩ := index_tells xs s hn xs.length 0 (by omega) (by omega)
  refine Ev.bind (g := fun k => slices_Index_string_string.f k xs s) (f := fun _ t => some (decide (t ≥ 0))) h ?_
  have : hasL xs s = decide (r ≥ 0) := by rw [hr]; rfl
  rw [this]
  exact Ev.now _

theorem texts_ev (xs : List ByteArray) (hn : xs.length < 4611686018427387904) : Ev (fun k => verdererref09_Texts.f k xs xs) true := by
  have h : ∀ d i, xs.length - i = d → i ≤ xs.length → Ev (fun k => verdererref09_Texts.l0 k xs xs (i : Int)) true := by
    intro d
    induction d with
    | zero =>
      intro i hd hi
      refine Ev.step (f := fun _ => some true) (fun k => ?_) (Ev.now _)
      simp only [verdererref09_Texts.l0]
      rw [if_neg (by omega)]
    | succ d ih =>
      intro i hd hi
      refine Ev.step (f := fun k => verdererref09_Texts.l0 k xs xs ((i + 1 : Nat) : Int)) (fun k => ?_) (ih (i + 1) (by omega) (by omega))
      simp only [verdererref09_Texts.l0]
      rw [if_pos (by omega), if_pos (by omega), if_pos (by omega), if_pos trivial, wrap_up (by omega)]
  refine Ev.congr (f := fun k => verdererref09_Texts.l0 k xs xs ((0 : Nat) : Int)) (fun k => ?_) (h xs.length 0 (by omega) (by omega))
  simp only [verdererref09_Texts.f]
  rw [if_pos trivial]; rfl

/-- An argument that is a variable with a name. -/
def isVar (t : S41) : Bool := !t.f1 && !decide (t.f0.toList = [])
/-- The variables of a literal. -/
def varsL (l : List S41) : List ByteArray := (l.filter isVar).map (·.f0)
/-- Binds a literal its variables? -/
def atomL (l : S37) : Bool := decide (l.f3 = 0) && !l.f0

theorem rd41 {xs : List S41} {i : Nat} (h : i < xs.length) : rd_T41 xs (i : Int) = xs[i] := by
  unfold rd_T41
  simp [h]
theorem rd37 {xs : List S37} {i : Nat} (h : i < xs.length) : rd_T37 xs (i : Int) = xs[i] := by
  unfold rd_T37
  simp [h]
theorem binds_eq (l : S37) : guard_binds.f l.f0 l.f1 l.f2 l.f3 = some (atomL l) := by
  unfold guard_binds.f atomL
  by_cases h : l.f3 = 0 <;> simp [h]
theorem atom_eq (l : S37) : verdererref15_atom.f l.f0 l.f1 l.f2 l.f3 = some (atomL l) := by
  unfold verdererref15_atom.f atomL
  by_cases h : l.f3 = 0 <;> simp [h]

theorem varsL_no {t : S41} {l : List S41} (h : isVar t = false) : varsL (t :: l) = varsL l := by simp [varsL, h]
theorem varsL_yes {t : S41} {l : List S41} (h : isVar t = true) : varsL (t :: l) = t.f0 :: varsL l := by simp [varsL, h]

theorem vars_tells (l : List S41) (hn : l.length ≤ 1000) : ∀ d i out, l.length - i = d → i ≤ l.length → out.length + d ≤ 10000 →
    Ev (fun k => guard_vars.l0 k out l (l.length : Int) (i : Int)) (out ++ varsL (l.drop i)) := by
  intro d
  induction d with
  | zero =>
    intro i out hd hi ho
    have : i = l.length := by omega
    subst this
    refine Ev.step (f := fun _ => some out) (fun k => ?_) ?_
    · simp only [guard_vars.l0]
      rw [if_neg (by omega)]
    · rw [List.drop_length]; simp only [varsL, List.filter_nil, List.map_nil, List.append_nil]; exact Ev.now _
  | succ d ih =>
    intro i out hd hi ho
    have hlt : i < l.length := by omega
    rw [List.drop_eq_getElem_cons hlt]
    by_cases h1 : l[i].f1 = true
    · rw [varsL_no (by simp [isVar, h1])]
      refine Ev.step (f := fun k => guard_vars.l0 k out l (l.length : Int) ((i + 1 : Nat) : Int)) (fun k => ?_) (ih (i + 1) out (by omega) (by omega) (by omega))
      simp only [guard_vars.l0]
      rw [if_pos (by omega), if_pos (by omega), if_pos (by omega), rd41 hlt, if_pos h1, wrap_up (by omega)]
    by_cases h2 : l[i].f0.toList = []
    · rw [varsL_no (by show (!l[i].f1 && !decide (l[i].f0.toList = [])) = false; rw [decide_eq_true h2, Bool.not_true, Bool.and_false])]
      refine Ev.step (f := fun k => guard_vars.l0 k out l (l.length : Int) ((i + 1 : Nat) : Int)) (fun k => ?_) (ih (i + 1) out (by omega) (by omega) (by omega))
      simp only [guard_vars.l0]
      rw [if_pos (by omega), if_pos (by omega), if_pos (by omega), rd41 hlt, if_neg h1, if_pos h2, wrap_up (by omega)]
    · rw [varsL_yes (by show (!l[i].f1 && !decide (l[i].f0.toList = [])) = true; rw [decide_eq_false h2, Bool.eq_false_iff.2 h1]; rfl)]
      have h := ih (i + 1) (out ++ [l[i].f0]) (by omega) (by omega) (by simp; omega)
      rw [List.append_assoc] at h
      refine Ev.step (f := fun k => guard_vars.l0 k (out ++ [l[i].f0]) l (l.length : Int) ((i + 1 : Nat) : Int)) (fun k => ?_) h
      simp only [guard_vars.l0]
      rw [if_pos (by omega), if_pos (by omega), if_pos (by omega), rd41 hlt, if_neg h1, if_neg h2, if_pos (by omega), wrap_up (by omega)]

theorem vars_ev (x : S37) (hn : x.f2.length ≤ 1000) : Ev (fun k => guard_vars.f k x.f0 x.f1 x.f2 x.f3) (varsL x.f2) := by
  have h := vars_tells x.f2 hn x.f2.length 0 [] (by omega) (by omega) (by simp; omega)
  exact h

theorem varsL_length (l : List S41) : (varsL l).length ≤ l.length := by
  simp only [varsL, List.length_map]
  exact List.length_filter_le _ _

/-- Texts that are not there yet are added. -/
def addL (out vs : List ByteArray) : List ByteArray := vs.foldl (fun o v => if hasL o v then o else o ++ [v]) out

theorem addL_length : ∀ (vs out : List ByteArray), (addL out vs).length ≤ out.length + vs.length := by
  intro vs
  induction vs with
  | nil => intro out; simp [addL]
  | cons v vs ih =>
    intro out
    have : addL out (v :: vs) = addL (if hasL out v then out else out ++ [v]) vs := rfl
    rw [this]
    refine Nat.le_trans (ih _) ?_
    split <;> simp <;> omega

theorem addL_yes {out vs : List ByteArray} {v : ByteArray} (h : hasL out v = true) : addL out (v :: vs) = addL out vs := by
  show addL (if hasL out v then out else out ++ [v]) vs = _
  rw [if_pos h]
theorem addL_no {out vs : List ByteArray} {v : ByteArray} (h : ¬ hasL out v = true) : addL out (v :: vs) = addL (out ++ [v]) vs := by
  show addL (if hasL out v then out else out ++ [v]) vs = _
  rw [if_neg h]

/-- The variables that the atoms bind. -/
def boundL : List ByteArray → List S37 → List ByteArray
  | out, [] => out
  | out, l :: ls => boundL (if atomL l then addL out (varsL l.f2) else out) ls
end Go.Proofs.Ytdagpgccjamkmaa.G
