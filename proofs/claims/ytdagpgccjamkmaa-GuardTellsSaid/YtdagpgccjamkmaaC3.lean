import Derived.Test.YtdagpgccjamkmaaC2
/-
  The C machine, part Db: regions without a fixed order: what is done ahead, in stages.
-/
namespace Go.Cm

section
variable {P : Program} {C : Cx}

/-- What an operation that does not act has come to, ahead of its time. -/
def Outcome (C : Cx) (ops : Array Oper) (d : DOp) (ej : Env) (cj : CV) (p : Pend) (h : Heap) : Prop :=
  (gWant C ops d.o.guard ej = some false ∧ cj = .undef ∧ ∀ q ∈ p, q.1 ≠ d.i) ∨
  (gWant C ops d.o.guard ej = some true ∧ match d.act with
    | .p f => f ej = some cj ∧ ∀ q ∈ p, q.1 ≠ d.i
    | .r f => f ej h = some cj ∧ ∀ q ∈ p, q.1 ≠ d.i
    | .a f => ∃ ob mk nj, f ej = some (ob, mk) ∧ cj = mk nj ∧ (d.i, nj, ob) ∈ p
    | _ => False)

def Ran (C : Cx) (ops : Array Oper) (d : DOp) (e : Env) (p : Pend) (h : Heap) : Prop :=
  ∃ ej cj, BT.Deep C.d ej ∧ (∀ t, Reads ops d.o t → t < C.nt → ej.look .undef (pth C t) = e.look .undef (pth C t)) ∧ (∀ t, d.o.dst = some t → e.look .undef (pth C t) = cj) ∧ Outcome C ops d ej cj p h

theorem Outcome.more {ops : Array Oper} {d : DOp} {ej : Env} {cj : CV} {p p' : Pend} {h : Heap} (ho : Outcome C ops d ej cj p h) (h1 : ∀ q ∈ p, q.1 = d.i → q ∈ p') (h2 : ∀ q ∈ p', q ∈ p ∨ q.1 ≠ d.i) : Outcome C ops d ej cj p' h := by
  have hno : (∀ q ∈ p, q.1 ≠ d.i) → ∀ q ∈ p', q.1 ≠ d.i := fun hp q hq => (h2 q hq).elim (hp q) id
  rcases ho with ⟨g1, g2, g3⟩ | ⟨g1, g2⟩
  · exact Or.inl ⟨g1, g2, hno g3⟩
  · refine Or.inr ⟨g1, ?_⟩
    cases ha : d.act <;> rw [ha] at g2 <;> simp only at g2 ⊢
    · exact ⟨g2.1, hno g2.2⟩
    · exact ⟨g2.1, hno g2.2⟩
    · obtain ⟨ob, mk, nj, k1, k2, k3⟩ := g2
      exact ⟨ob, mk, nj, k1, k2, h1 _ k3 rfl⟩

theorem Ran.more {ops : Array Oper} {d : DOp} {e e' : Env} {p p' : Pend} {h : Heap} (hr : Ran C ops d e p h) (hl : ∀ t, t < C.nt → (Reads ops d.o t ∨ d.o.dst = some t) → e'.look .undef (pth C t) = e.look .undef (pth C t))
    (hd : ∀ t, d.o.dst = some t → t < C.nt) (h1 : ∀ q ∈ p, q.1 = d.i → q ∈ p') (h2 : ∀ q ∈ p', q ∈ p ∨ q.1 ≠ d.i) : Ran C ops d e' p' h := by
  obtain ⟨ej, cj, g1, g2, g3, g4⟩ := hr
  exact ⟨ej, cj, g1, fun t ht hn => by rw [g2 t ht hn, hl t hn (Or.inl ht)], fun t ht => by rw [hl t (hd t ht) (Or.inr ht), g3 t ht], g4.more h1 h2⟩

/-- Neither read nor written by 'd'. -/
def Apart (ops : Array Oper) (d k : DOp) : Prop := (∀ t, Reads ops d.o t → k.o.dst ≠ some t) ∧ (∀ t, d.o.dst = some t → k.o.dst ≠ some t) ∧ d.i ≠ k.i

theorem dst_lt {o : Option Nat} {p : List Bool} (h : dstOf C o = some p) {t : Nat} (ht : o = some t) : t < C.nt := by
  subst ht
  exact (slot_some h).1
theorem dst_path {o : Option Nat} {p : List Bool} (h : dstOf C o = some p) {t : Nat} (ht : o = some t) : p = pth C t := by
  subst ht
  exact (slot_some h).2

theorem look_put_other (hroom : C.nt < 2 ^ C.d) {e : Env} (hd : BT.Deep C.d e) {o : Option Nat} {p : List Bool} (h : dstOf C o = some p) (v : CV) {t : Nat} (ht : t < C.nt) (hne : o ≠ some t) : (e.put v p).look .undef (pth C t) = e.look .undef (pth C t) := by
  cases o with
  | none =>
    simp only [dstOf, Option.some.injEq] at h
    subst h
    rw [BT.look_put _ _ _ _ _ _ hd (pth_length C _) (pth_length C t), if_neg]
    intro hp
    have := pth_inj (Nat.lt_trans ht hroom) hroom hp
    omega
  | some s =>
    obtain ⟨hs, rfl⟩ := slot_some h
    rw [BT.look_put _ _ _ _ _ _ hd (pth_length C _) (pth_length C t), if_neg]
    intro hp
    have := pth_inj (Nat.lt_trans ht hroom) (Nat.lt_trans hs hroom) hp
    exact hne (by rw [this])
theorem look_put_same {e : Env} (hd : BT.Deep C.d e) (v : CV) (t : Nat) : (e.put v (pth C t)).look .undef (pth C t) = v := by
  rw [BT.look_put _ _ _ _ _ _ hd (pth_length C _) (pth_length C t), if_pos rfl]
theorem deep_put_dst {e : Env} (hd : BT.Deep C.d e) {o : Option Nat} {p : List Bool} (h : dstOf C o = some p) (v : CV) : BT.Deep C.d (e.put v p) := by
  cases o with
  | none =>
    simp only [dstOf, Option.some.injEq] at h
    subst h
    exact BT.deep_put _ _ _ _ hd (pth_length C _)
  | some s =>
    obtain ⟨hs, rfl⟩ := slot_some h
    exact BT.deep_put _ _ _ _ hd (pth_length C _)

/-- One operation, done ahead. -/
theorem stage_one (hroom : C.nt < 2 ^ C.d) {call : CallF} {rd : Option Nat} {ops : Array Oper} {d : DOp} (hdst : dstOf C d.o.dst = some d.dst) (hself : ∀ t, Reads ops d.o t → d.o.dst ≠ some t) (hne : d.eff = effOf d.o d.act) (heff : d.eff = false)
    {k : Cont} {e : Env} {ds : List CDef} {p : Pend} {h : Heap} {c : Ctl} {n : Nat} {Q : SR → Prop} (hdeep : BT.Deep C.d e) (hp : ∀ q ∈ p, q.1 ≠ d.i)
    (hr : (runStep call rd (stageStep C ops d) k e ds p h c n).All Q) :
    ∃ v p' n', (k (e.put v d.dst) ds p' h c n').All Q ∧ Ran C ops d (e.put v d.dst) p' h ∧ n ≤ n' ∧ ((p' = p ∧ n' = n) ∨ ∃ ob, p' = (d.i, n, ob) :: p ∧ n' = n + 1) := by
  have hlook : ∀ v t, Reads ops d.o t → t < C.nt → e.look .undef (pth C t) = (e.put v d.dst).look .undef (pth C t) := fun v t ht hn => (look_put_other hroom hdeep hdst v hn (hself t ht)).symm
  have hval : ∀ v t, d.o.dst = some t → (e.put v d.dst).look .undef (pth C t) = v := fun v t ht => by rw [dst_path hdst ht]; exact look_put_same hdeep v t
  rw [hne] at heff
  have skip : gWant C ops d.o.guard e = some false ∧ (k (e.put .undef d.dst) ds p h c n).All Q → ∃ v p' n', (k (e.put v d.dst) ds p' h c n').All Q ∧ Ran C ops d (e.put v d.dst) p' h ∧ n ≤ n' ∧ ((p' = p ∧ n' = n) ∨ ∃ ob, p' = (d.i, n, ob) :: p ∧ n' = n + 1) := by
    rintro ⟨g1, g2⟩
    exact ⟨.undef, p, n, g2, ⟨e, .undef, hdeep, hlook _, hval _, Or.inl ⟨g1, rfl, hp⟩⟩, Nat.le_refl _, Or.inl ⟨rfl, rfl⟩⟩
  cases ha : d.act with
  | p f =>
    simp only [stageStep, ha] at hr
    rcases guard_all hr with ⟨g1, g2⟩ | g
    · have g2' : (Option.rec (motive := fun _ => Tree SR) .fail (fun v => k (e.put v d.dst) ds p h c n) (f e)).All Q := g2
      cases hf : f e with
      | none => rw [hf] at g2'; exact g2'.elim
      | some v =>
        rw [hf] at g2'
        exact ⟨v, p, n, g2', ⟨e, v, hdeep, hlook _, hval _, Or.inr ⟨g1, by rw [ha]; exact ⟨hf, hp⟩⟩⟩, Nat.le_refl _, Or.inl ⟨rfl, rfl⟩⟩
    · exact skip g
  | r f =>
    simp only [stageStep, ha] at hr
    rcases guard_all hr with ⟨g1, g2⟩ | g
    · have g2' : (Option.rec (motive := fun _ => Tree SR) .fail (fun v => k (e.put v d.dst) ds p h c n) (f e h)).All Q := g2
      cases hf : f e h with
      | none => rw [hf] at g2'; exact g2'.elim
      | some v =>
        rw [hf] at g2'
        exact ⟨v, p, n, g2', ⟨e, v, hdeep, hlook _, hval _, Or.inr ⟨g1, by rw [ha]; exact ⟨hf, hp⟩⟩⟩, Nat.le_refl _, Or.inl ⟨rfl, rfl⟩⟩
    · exact skip g
  | a f =>
    simp only [stageStep, ha] at hr
    rcases guard_all hr with ⟨g1, g2⟩ | g
    · have g2' : (Option.rec (motive := fun _ => Tree SR) .fail (fun r => k (e.put (r.2 n) d.dst) ds ((d.i, n, r.1) :: p) h c (n + 1)) (f e)).All Q := g2
      cases hf : f e with
      | none => rw [hf] at g2'; exact g2'.elim
      | some r =>
        rw [hf] at g2'
        obtain ⟨ob, mk⟩ := r
        exact ⟨mk n, (d.i, n, ob) :: p, n + 1, g2', ⟨e, mk n, hdeep, hlook _, hval _, Or.inr ⟨g1, by rw [ha]; exact ⟨ob, mk, n, hf, rfl, by simp⟩⟩⟩, Nat.le_succ n, Or.inr ⟨ob, rfl, rfl⟩⟩
    · exact skip g
  | e f => rw [ha] at heff; unfold effOf at heff; split at heff <;> cases heff
  | next it => rw [ha] at heff; unfold effOf at heff; split at heff <;> cases heff
  | call f as => rw [ha] at heff; unfold effOf at heff; split at heff <;> cases heff
  | defer f as => rw [ha] at heff; unfold effOf at heff; split at heff <;> cases heff
  | bad => rw [ha] at heff; unfold effOf at heff; split at heff <;> cases heff

/-- Blocks that wait: each by its operation, under a number of its own. -/
def Nd (p : Pend) : Prop := p.Pairwise fun q r => q.1 ≠ r.1 ∧ q.2.1 ≠ r.2.1

/-- A stage. -/
theorem stage_run (hroom : C.nt < 2 ^ C.d) {call : CallF} {rd : Option Nat} {ops : Array Oper} {rest : List CStep} {Q : SR → Prop} :
    ∀ (l : List DOp), (∀ d ∈ l, dstOf C d.o.dst = some d.dst ∧ (∀ t, Reads ops d.o t → d.o.dst ≠ some t) ∧ d.eff = effOf d.o d.act ∧ d.eff = false) → l.Pairwise (Apart ops) →
      ∀ (e : Env) (ds : List CDef) (p : Pend) (h : Heap) (c : Ctl) (n : Nat), BT.Deep C.d e → Nd p → (∀ q ∈ p, q.2.1 < n) → (∀ d ∈ l, ∀ q ∈ p, q.1 ≠ d.i) →
      ((runSteps call rd (l.map (stageStep C ops) ++ rest) e ds p h c n).All Q) →
      ∃ e' p' n', (runSteps call rd rest e' ds p' h c n').All Q ∧ BT.Deep C.d e' ∧ n ≤ n' ∧ Nd p' ∧ (∀ q ∈ p', q.2.1 < n') ∧ (∀ q ∈ p, q ∈ p') ∧ (∀ q ∈ p', q ∈ p ∨ (n ≤ q.2.1 ∧ ∃ d ∈ l, d.i = q.1)) ∧
        (∀ t, t < C.nt → (∀ d ∈ l, d.o.dst ≠ some t) → e'.look .undef (pth C t) = e.look .undef (pth C t)) ∧ ∀ d ∈ l, Ran C ops d e' p' h
  | [], _, _, e, ds, p, h, c, n, hdeep, hnd, hpn, _, hr => ⟨e, p, n, hr, hdeep, Nat.le_refl _, hnd, hpn, fun _ h => h, fun _ h => Or.inl h, fun _ _ _ => rfl, by simp⟩
  | d :: l, hl, hpw, e, ds, p, h, c, n, hdeep, hnd, hpn, hpi, hr => by
    obtain ⟨h1, h2, h3, h4⟩ := hl d (by simp)
    rw [List.pairwise_cons] at hpw
    obtain ⟨v, p1, n1, g1, g2, g3, g4⟩ := stage_one hroom h1 h2 h3 h4 (k := runSteps call rd (l.map (stageStep C ops) ++ rest)) hdeep (hpi d (by simp)) hr
    have hnd1 : Nd p1 := by
      rcases g4 with ⟨rfl, rfl⟩ | ⟨ob, rfl, rfl⟩
      · exact hnd
      · refine List.pairwise_cons.2 ⟨fun q hq => ⟨(hpi d (by simp) q hq).symm, ?_⟩, hnd⟩
        have := hpn q hq
        show n ≠ q.2.1
        omega
    have hpn1 : ∀ q ∈ p1, q.2.1 < n1 := by
      rcases g4 with ⟨rfl, rfl⟩ | ⟨ob, rfl, rfl⟩
      · exact hpn
      · intro q hq
        rcases List.mem_cons.1 hq with rfl | hq
        · exact Nat.lt_succ_self n
        · have := hpn q hq; omega
    have hp1 : ∀ q ∈ p1, q ∈ p ∨ (n ≤ q.2.1 ∧ q.1 = d.i) := by
      rcases g4 with ⟨rfl, rfl⟩ | ⟨ob, rfl, rfl⟩
      · exact fun q hq => Or.inl hq
      · intro q hq
        rcases List.mem_cons.1 hq with rfl | hq
        · exact Or.inr ⟨Nat.le_refl _, rfl⟩
        · exact Or.inl hq
    have hp0 : ∀ q ∈ p, q ∈ p1 := by
      rcases g4 with ⟨rfl, rfl⟩ | ⟨ob, rfl, rfl⟩
      · exact fun q hq => hq
      · exact fun q hq => List.mem_cons_of_mem _ hq
    obtain ⟨e', p', n', k1, k2, k3, k4, k5, k6, k7, k8, k9⟩ := stage_run hroom l (fun x hx => hl x (by simp [hx])) hpw.2 (e.put v d.dst) ds p1 h c n1 (deep_put_dst hdeep h1 v) hnd1 hpn1
      (fun x hx q hq => by
        rcases hp1 q hq with hq' | ⟨_, hq'⟩
        · exact hpi x (by simp [hx]) q hq'
        · rw [hq']; exact (hpw.1 x hx).2.2) g1
    refine ⟨e', p', n', k1, k2, Nat.le_trans g3 k3, k4, k5, fun q hq => k6 q (hp0 q hq), fun q hq => ?_, fun t ht hnt => ?_, fun x hx => ?_⟩
    · rcases k7 q hq with h' | ⟨h', x, hx, hxi⟩
      · rcases hp1 q h' with h'' | ⟨h'', h3⟩
        · exact Or.inl h''
        · exact Or.inr ⟨h'', d, by simp, h3.symm⟩
      · exact Or.inr ⟨by omega, x, by simp [hx], hxi⟩
    · rw [k8 t ht (fun x hx => hnt x (by simp [hx]))]
      exact look_put_other hroom hdeep h1 v ht (hnt d (by simp))
    · rcases List.mem_cons.1 hx with rfl | hx
      · refine g2.more (fun t ht hrd => k8 t ht fun y hy => ?_) (fun t ht => dst_lt h1 ht) (fun q hq _ => k6 q hq) (fun q hq => ?_)
        · rcases hrd with hrd | hrd
          · exact (hpw.1 y hy).1 t hrd
          · exact (hpw.1 y hy).2.1 t hrd
        · rcases k7 q hq with h' | ⟨_, y, hy, hyi⟩
          · exact Or.inl h'
          · exact Or.inr (by rw [← hyi]; exact ((hpw.1 y hy).2.2).symm)
      · exact k9 x hx

/-- What has been read is read again. -/
theorem again_run {call : CallF} {rd : Option Nat} {ops : Array Oper} {rest : List CStep} {Q : SR → Prop} {e : Env} {ds : List CDef} {p : Pend} {h : Heap} {c : Ctl} {n : Nat} :
    ∀ (l : List DOp), ((runSteps call rd (l.flatMap (againStep C ops) ++ rest) e ds p h c n).All Q) →
      ((runSteps call rd rest e ds p h c n).All Q) ∧ ∀ d ∈ l, ∀ f, d.act = .r f → gWant C ops d.o.guard e = some false ∨ (gWant C ops d.o.guard e = some true ∧ f e h = some (e.look .undef d.dst))
  | [], hr => ⟨hr, by simp⟩
  | d :: l, hr => by
    rw [List.flatMap_cons, List.append_assoc] at hr
    by_cases ha : ∃ f, d.act = .r f
    · obtain ⟨f, ha⟩ := ha
      simp only [againStep, ha, List.singleton_append] at hr
      have hr' : (runStep call rd (onlyIfStep C ops d.o.guard (.again d.dst f)) (runSteps call rd (l.flatMap (againStep C ops) ++ rest)) e ds p h c n).All Q := hr
      rcases onlyIf_all hr' with ⟨g1, g2⟩ | ⟨g1, g2⟩
      · have g2' : (Option.rec (motive := fun _ => Tree SR) .fail (fun v => cnd (CV.beq v (e.look .undef d.dst)) (runSteps call rd (l.flatMap (againStep C ops) ++ rest) e ds p h c n) .fail) (f e h)).All Q := g2
        cases hf : f e h with
        | none => rw [hf] at g2'; exact g2'.elim
        | some v =>
          rw [hf] at g2'
          simp only at g2'
          cases hb : CV.beq v (e.look .undef d.dst) with
          | false => rw [hb] at g2'; exact g2'.elim
          | true =>
            rw [hb, cnd_true] at g2'
            obtain ⟨k1, k2⟩ := again_run l g2'
            refine ⟨k1, fun x hx f' hf' => ?_⟩
            rcases List.mem_cons.1 hx with rfl | hx
            · rw [ha] at hf'
              cases hf'
              exact Or.inr ⟨g1, by rw [hf, CV.beq_eq _ _ hb]⟩
            · exact k2 x hx f' hf'
      · obtain ⟨k1, k2⟩ := again_run l g2
        refine ⟨k1, fun x hx f' hf' => ?_⟩
        rcases List.mem_cons.1 hx with rfl | hx
        · exact Or.inl g1
        · exact k2 x hx f' hf'
    · have e1 : againStep C ops d = [] := by
        unfold againStep
        split
        · rename_i f hf; exact (ha ⟨f, hf⟩).elim
        · rfl
      rw [e1, List.nil_append] at hr
      obtain ⟨k1, k2⟩ := again_run l hr
      refine ⟨k1, fun x hx f' hf' => ?_⟩
      rcases List.mem_cons.1 hx with rfl | hx
      · exact (ha ⟨f', hf'⟩).elim
      · exact k2 x hx f' hf'

/-! Blocks that wait. -/

def heldBy (sel : Nat → Bool) : Pend → Nat → Option MObj
  | [], _ => none
  | q :: p, b => if sel q.1 && q.2.1 == b then some q.2.2 else heldBy sel p b

theorem heldBy_some {sel : Nat → Bool} : ∀ {p : Pend} {b : Nat} {o : MObj}, heldBy sel p b = some o → ∃ q ∈ p, sel q.1 = true ∧ q.2.1 = b ∧ q.2.2 = o
  | [], _, _, h => by cases h
  | q :: p, b, o, h => by
    unfold heldBy at h
    split at h
    · rename_i hc
      simp only [Bool.and_eq_true, beq_iff_eq] at hc
      simp only [Option.some.injEq] at h
      exact ⟨q, by simp, hc.1, hc.2, h⟩
    · obtain ⟨r, h1, h2⟩ := heldBy_some h
      exact ⟨r, by simp [h1], h2⟩
theorem heldBy_mem {sel : Nat → Bool} : ∀ {p : Pend} (_ : Nd p) {q : Nat × Nat × MObj}, q ∈ p → sel q.1 = true → heldBy sel p q.2.1 = some q.2.2
  | [], _, _, h, _ => by simp at h
  | r :: p, hn, q, h, hs => by
    unfold Nd at hn
    rw [List.pairwise_cons] at hn
    unfold heldBy
    rcases List.mem_cons.1 h with rfl | h
    · simp [hs]
    · have := (hn.1 q h).2
      have e : (r.2.1 == q.2.1) = false := by simpa using this
      rw [e]
      simp only [Bool.and_false, Bool.false_eq_true, if_false]
      exact heldBy_mem hn.2 h hs
theorem heldBy_none {sel : Nat → Bool} {p : Pend} {b : Nat} (h : ∀ q ∈ p, sel q.1 = true → q.2.1 ≠ b) : heldBy sel p b = none := by
  cases hh : heldBy sel p b with
  | none => rfl
  | some o =>
    obtain ⟨q, h1, h2, h3, _⟩ := heldBy_some hh
    exact (h q h1 h2 h3).elim
/-- Told by its members. -/
theorem heldBy_ext {sel sel' : Nat → Bool} {p p' : Pend} (hn : Nd p) (hn' : Nd p') (h : ∀ q, (q ∈ p ∧ sel q.1 = true) ↔ (q ∈ p' ∧ sel' q.1 = true)) : heldBy sel p = heldBy sel' p' := by
  funext b
  cases hh : heldBy sel p b with
  | none =>
    symm
    apply heldBy_none
    rintro q h1 h2 rfl
    obtain ⟨g1, g2⟩ := (h q).2 ⟨h1, h2⟩
    rw [heldBy_mem hn g1 g2] at hh
    cases hh
  | some o =>
    obtain ⟨q, h1, h2, rfl, rfl⟩ := heldBy_some hh
    obtain ⟨g1, g2⟩ := (h q).1 ⟨h1, h2⟩
    rw [heldBy_mem hn' g1 g2]

theorem flushH_get (is : List Nat) : ∀ (p : Pend), Nd p → ∀ (h : Heap), (flushH is p h).get = uni h.get (heldBy is.contains p)
  | [], _, h => rfl
  | q :: p, hn, h => by
    unfold Nd at hn
    rw [List.pairwise_cons] at hn
    show (flushH is p (cnd (is.contains q.1) (h.set q.2.1 (some q.2.2)) h)).get = _
    rw [flushH_get is p hn.2]
    funext b
    cases hc : is.contains q.1 with
    | false =>
      rw [cnd_false]
      simp only [uni, heldBy, hc, Bool.false_and, Bool.false_eq_true, if_false]
    | true =>
      rw [cnd_true, get_set_fun]
      simp only [uni, heldBy, hc, Bool.true_and]
      by_cases hb : q.2.1 = b
      · subst hb
        have : heldBy is.contains p q.2.1 = none := heldBy_none fun r hr _ => ((hn.1 r hr).2).symm
        simp [this, upd]
      · have e : (q.2.1 == b) = false := by simpa using hb
        rw [e]
        simp only [Bool.false_eq_true, if_false]
        cases heldBy is.contains p b with
        | some o => rfl
        | none => simp [upd, Ne.symm hb]

end
end Go.Cm

/-
  The C machine, part Dc: regions without a fixed order: any order.
-/
namespace Go.Cm

section
variable {P : Program} {C : Cx}

def Ls (listed : Array Bool) (j : Nat) : Prop := listed.getD j false = true

theorem ls_set {listed : Array Bool} {i j : Nat} (hi : i < listed.size) : Ls (listed.setIfInBounds i true) j ↔ Ls listed j ∨ j = i := by
  unfold Ls
  by_cases h : j = i
  · subst h
    simp [Array.getD, hi]
  · by_cases hj : j < listed.size
    · simp [Array.getD, hj, Array.getElem_setIfInBounds, Ne.symm h, h]
    · simp [Array.getD, hj, h]

theorem nd_ne : ∀ {p : Pend}, Nd p → ∀ {q r : Nat × Nat × MObj}, q ∈ p → r ∈ p → q ≠ r → q.1 ≠ r.1 ∧ q.2.1 ≠ r.2.1
  | [], _, _, _, h, _, _ => by simp at h
  | x :: p, hn, q, r, hq, hr, hne => by
    unfold Nd at hn
    rw [List.pairwise_cons] at hn
    rcases List.mem_cons.1 hq with rfl | hq' <;> rcases List.mem_cons.1 hr with rfl | hr'
    · exact (hne rfl).elim
    · exact hn.1 r hr'
    · exact ⟨((hn.1 q hq').1).symm, ((hn.1 q hq').2).symm⟩
    · exact nd_ne hn.2 hq' hr' hne

def Settled (ds : List DOp) (listed : Array Bool) (t : Nat) : Prop := ∀ d ∈ ds, d.eff = false → d.o.dst = some t → Ls listed d.i

structure PendOk (ds : List DOp) (listed : Array Bool) (m : Nat) (p : Pend) (ρ : Ren) (h : Heap) (n0 n : Nat) : Prop where
  num : ∀ q ∈ p, n0 ≤ q.2.1 ∧ q.2.1 < n ∧ h.get q.2.1 = none ∧ (¬ Ls listed q.1 → ρ q.2.1 = none)
  nd : Nd p
  idx : ∀ q ∈ p, ∃ d ∈ ds, d.eff = false ∧ d.i = q.1 ∧ d.st ≤ m

/-- Where a region stands: m of those that act are done. -/
structure DInv (P : Program) (C : Cx) (KR : KRelT) (call : CallF) (rd : Option Nat) (Q : SR → Prop) (ops : Array Oper) (ds : List DOp) (ρ0 : Ren) (h0 : Heap) (c0 : Ctl) (n0 : Nat) (w0 : World)
    (m : Nat) (done left : List DOp) (listed : Array Bool) (a : Act) (w : World) : Prop where
  es : ds.filter (·.eff) = done.reverse ++ left
  len : m = done.length
  size : listed.size = ops.size
  effs : ∀ d ∈ ds, d.eff = true → (Ls listed d.i ↔ d ∈ done)
  closed : Closed ops (Ls listed)
  ex : ∃ ρ e dl p h c n, ((runSteps call rd (tailOf C ops ds m done left) e dl p h c n).All Q) ∧
    Step KR ρ0 h0.get c0.get n0 w0 ρ (uni h.get (heldBy (fun j => listed.getD j false) p)) c.get n w ∧ PendOk ds listed m p ρ h n0 n ∧
    SRel C (Settled ds listed) ρ e a.tmps ∧ DsRel P ρ dl a.defers ∧ ∀ d ∈ ds, d.eff = false → ¬ Ls listed d.i → d.st ≤ m → Ran C ops d e p h

theorem uni_sub {H X : Nat → Option MObj} (hX : ∀ b o, X b = some o → H b = none) (b : Nat) (o : MObj) (h : H b = some o) : uni H X b = some o := by
  unfold uni
  cases hx : X b with
  | none => exact h
  | some o' => rw [hX b o' hx] at h; cases h

/-- Behind a slot of an operation that was done ahead. -/
theorem settle_put {ds : List DOp} {listed : Array Bool} {ρ : Ren} {e : Env} {a : Act} (hs : SRel C (Settled ds listed) ρ e a.tmps) {d : DOp} (hi : d.i < listed.size) (hd : ∀ k ∈ ds, k.i = d.i → k = d) {v : Value} (hv : ∀ t, d.o.dst = some t → VRel ρ (e.look .undef (pth C t)) v) :
    SRel C (Settled ds (listed.setIfInBounds d.i true)) ρ e (a.put d.o.dst v).tmps := by
  have key : ∀ t, Settled ds (listed.setIfInBounds d.i true) t → d.o.dst ≠ some t → Settled ds listed t := by
    intro t ht hne k hk hke hkt
    rcases (ls_set hi).1 (ht k hk hke hkt) with h | h
    · exact h
    · rw [hd k hk h] at hkt; exact (hne hkt).elim
  cases hdst : d.o.dst with
  | none => exact hs.weaken fun t ht => key t ht (by rw [hdst]; simp)
  | some s =>
    refine ⟨hs.deep, by simp [Act.put, hs.size], hs.room, fun t ht hS => ?_⟩
    simp only [Act.put]
    by_cases h : t = s
    · subst h
      have : t < a.tmps.size := by rw [hs.size]; exact ht
      have hg : (a.tmps.setIfInBounds t v).getD t undef = v := by simp [Array.getD, this]
      rw [hg]
      exact hv t hdst
    · have := hs.val t ht (key t hS (by rw [hdst]; simp; exact Ne.symm h))
      have h1 : t < a.tmps.size := by rw [hs.size]; exact ht
      have hg : (a.tmps.setIfInBounds s v).getD t undef = a.tmps.getD t undef := by
        simp [Array.getD, h1, Array.getElem_setIfInBounds, Ne.symm h]
      rw [hg]
      exact this

theorem chainOk_adj : ∀ (xs : List DOp) (a b : DOp) (ys : List DOp), chainOk (xs ++ a :: b :: ys) = true → b.bef.testBit a.i = true
  | [], a, b, ys, h => by simp [chainOk] at h; exact h.1
  | [x], a, b, ys, h => by
    simp [chainOk] at h
    exact h.2.1
  | x :: y :: xs, a, b, ys, h => by
    have : chainOk ((y :: xs) ++ a :: b :: ys) = true := by
      simp only [List.cons_append, chainOk, Bool.and_eq_true] at h
      exact h.2
    exact chainOk_adj (y :: xs) a b ys this

section
variable {KR : KRelT} {call : CallF} {rd : Option Nat} {Q : SR → Prop} {ops : Array Oper} {ds : List DOp} {ρ0 : Ren} {h0 : Heap} {c0 : Ctl} {n0 : Nat} {w0 : World}
  {m : Nat} {done left : List DOp} {listed : Array Bool} {a : Act} {w : World}

theorem DInv.done_mem (hI : DInv P C KR call rd Q ops ds ρ0 h0 c0 n0 w0 m done left listed a w) {d : DOp} (hd : d ∈ done) : d ∈ ds ∧ d.eff = true := by
  have : d ∈ ds.filter (·.eff) := by rw [hI.es]; simp [hd]
  exact List.mem_filter.1 this
theorem DInv.left_mem (hI : DInv P C KR call rd Q ops ds ρ0 h0 c0 n0 w0 m done left listed a w) {d : DOp} (hd : d ∈ left) : d ∈ ds ∧ d.eff = true := by
  have : d ∈ ds.filter (·.eff) := by rw [hI.es]; simp [hd]
  exact List.mem_filter.1 this
theorem DInv.left_not (hX : DrawCx C ops ds) (hI : DInv P C KR call rd Q ops ds ρ0 h0 c0 n0 w0 m done left listed a w) {d : DOp} (hd : d ∈ left) : ¬ Ls listed d.i := by
  intro hl
  obtain ⟨h1, h2⟩ := hI.left_mem hd
  have h3 := (hI.effs d h1 h2).1 hl
  have hs : (done.reverse ++ left).Pairwise fun a b => a.i < b.i := by rw [← hI.es]; exact hX.sorted.filter _
  rw [List.pairwise_append] at hs
  have := hs.2.2 d (by simpa using h3) d hd
  omega

/-- What stands ahead of an operation that comes up is done. -/
theorem DInv.ahead (hX : DrawCx C ops ds) (hI : DInv P C KR call rd Q ops ds ρ0 h0 c0 n0 w0 m done left listed a w) {d : DOp} (hd : d ∈ ds) (hr : ∀ e ∈ d.o.after.toList, Region.binds .any e = true → Ls listed e.on) {i : Nat} (hi : d.bef.testBit i = true) : Ls listed i := by
  rw [hX.bef d hd] at hi
  exact bef_closed hI.closed d.i d.o (hX.get d hd) hr i hi

/-- One that does not act and comes up has been done ahead. -/
theorem DInv.st_le (hX : DrawCx C ops ds) (hI : DInv P C KR call rd Q ops ds ρ0 h0 c0 n0 w0 m done left listed a w) {d : DOp} (hd : d ∈ ds) (hr : ∀ e ∈ d.o.after.toList, Region.binds .any e = true → Ls listed e.on) : d.st ≤ m := by
  rw [hX.st d hd]
  refine stageOf_le _ _ _ _ _ (Nat.zero_le _) fun q e he hb => ?_
  rw [Nat.zero_add, hI.len]
  have hl := hI.ahead hX hd hr hb
  rw [List.getElem?_map, Option.map_eq_some_iff] at he
  obtain ⟨k, hk, rfl⟩ := he
  have hkm : k ∈ ds.filter (·.eff) := List.mem_of_getElem? hk
  obtain ⟨h1, h2⟩ := List.mem_filter.1 hkm
  rw [hI.es] at hk
  by_cases hq : q < done.length
  · exact hq
  · rw [List.getElem?_append_right (by simp; omega)] at hk
    exact (hI.left_not hX (List.mem_of_getElem? hk) hl).elim

theorem closed_set {i : Nat} {o : Oper} (hc : Closed ops (Ls listed)) (hi : i < listed.size) (ho : ops[i]? = some o) (hr : ∀ e ∈ o.after.toList, Region.binds .any e = true → Ls listed e.on) : Closed ops (Ls (listed.setIfInBounds i true)) := by
  intro j o' ho' hj e he hb
  rw [ls_set hi] at hj ⊢
  rcases hj with hj | rfl
  · exact Or.inl (hc j o' ho' hj e he hb)
  · rw [ho] at ho'
    simp only [Option.some.injEq] at ho'
    subst ho'
    exact Or.inl (hr e he hb)

theorem ready_spec {i : Nat} (hi : i ∈ Region.ready .any ops listed) (hsz : listed.size = ops.size) : i < ops.size ∧ ¬ Ls listed i ∧ ∃ o, ops[i]? = some o ∧ ∀ e ∈ o.after.toList, Region.binds .any e = true → Ls listed e.on := by
  obtain ⟨h1, o, h2, h3⟩ := mem_ready.1 hi
  have hlt : i < ops.size := (Array.getElem?_eq_some_iff.1 h2).1
  refine ⟨hlt, ?_, o, h2, fun e he hb => h3 e (by simpa using he) hb⟩
  unfold Ls
  have : i < listed.size := by omega
  simp [Array.getD, this] at h1 ⊢
  exact h1

/-- An operation that does not act, wherever it comes up. -/
theorem quiet_step (hKR : KMono KR) (hC : CxOk P C) (hd8 : 8 ≤ P.depth) (hX : DrawCx C ops ds) (hg0 : GRel C.ng ρ0) {rd' : Option Nat} (hI : DInv P C KR call rd Q ops ds ρ0 h0 c0 n0 w0 m done left listed a w) {d : DOp} (hd : d ∈ ds) (heff : d.eff = false)
    (hnl : ¬ Ls listed d.i) (hr : ∀ e ∈ d.o.after.toList, Region.binds .any e = true → Ls listed e.on) {K : Act → World → Prop} {Qx : Exit → Act → World → Prop}
    (hK : ∀ a' w', DInv P C KR call rd Q ops ds ρ0 h0 c0 n0 w0 m done left (listed.setIfInBounds d.i true) a' w' → K a' w') : wpOpIn (fenceOf rd') 0 P ops Qx d.i K a w := by
  obtain ⟨ρ, e, dl, p, h, c, n, x1, x2, x3, x4, x5, x6⟩ := hI.ex
  have hst := hI.st_le hX hd hr
  obtain ⟨ej, cj, y1, y2, y3, y4⟩ := x6 d hd heff hnl hst
  have hget := hX.get d hd
  have hlt : d.i < listed.size := by rw [hI.size]; exact (Array.getElem?_eq_some_iff.1 hget).1
  have huniq : ∀ k ∈ ds, k.i = d.i → k = d := fun k hk hki => sorted_uniq hX.sorted k hk d hd hki
  have hg : GRel C.ng ρ := hg0.mono x2.sub
  -- what it reads is settled
  have hreads : ∀ t, Reads ops d.o t → Settled ds listed t := by
    intro t ht k hk hke hkt
    have := hX.clash d hd k hk t ht hkt
    rw [clashOk, hke, heff] at this
    simp only [Bool.and_eq_true] at this
    exact hI.ahead hX hd hr this.1
  have hsj : SRel C (Reads ops d.o) ρ ej a.tmps := ⟨y1, x4.size, x4.room, fun t ht hrd => by rw [y2 t hrd ht]; exact x4.val t ht (hreads t hrd)⟩
  have hdl : ∀ u, DsRel P ρ dl (a.put d.o.dst u).defers := fun u => by rw [put_defers']; exact x5
  -- the state behind it, memory as it was
  have same : ∀ u, VRel ρ cj u → (∀ q ∈ p, q.1 ≠ d.i) → K (a.put d.o.dst u) w := by
    intro u hu hp
    have hh : heldBy (fun j => (listed.setIfInBounds d.i true).getD j false) p = heldBy (fun j => listed.getD j false) p := by
      refine heldBy_ext x3.nd x3.nd fun q => and_congr_right fun hq => ?_
      have := ls_set (j := q.1) hlt
      unfold Ls at this
      rw [this]
      simp [hp q hq]
    refine hK _ _ ⟨hI.es, hI.len, by simp [hI.size], fun k hk hke => ?_, closed_set hI.closed hlt hget hr, ρ, e, dl, p, h, c, n, x1, by rw [hh]; exact x2, ⟨fun q hq => ?_, x3.nd, x3.idx⟩, settle_put x4 hlt huniq (fun t ht => by rw [y3 t ht]; exact hu), hdl u, fun k hk hke hkl hks => ?_⟩
    · rw [ls_set hlt, hI.effs k hk hke]
      constructor
      · rintro (h | h)
        · exact h
        · rw [huniq k hk h] at hke; rw [heff] at hke; cases hke
      · exact Or.inl
    · obtain ⟨z1, z2, z3, z4⟩ := x3.num q hq
      exact ⟨z1, z2, z3, fun hn => z4 fun hl => hn ((ls_set hlt).2 (Or.inl hl))⟩
    · exact x6 k hk hke (fun hl => hkl ((ls_set hlt).2 (Or.inl hl))) hks
  unfold wpOpIn
  rw [hget]
  simp only
  rcases y4 with ⟨g1, rfl, g3⟩ | ⟨g1, g2⟩
  · rw [want_rel hsj (fun t ht => ht) g1]
    simp only [Bool.false_eq_true, if_false]
    exact ⟨fun _ _ => trivial, same undef (VRel.undef ρ) g3⟩
  · rw [want_rel hsj (fun t ht => ht) g1]
    simp only [if_true]
    rcases hX.act d hd with hbad | hcomp
    · rw [hbad] at g2; exact g2.elim
    have hok := compOp_ok hC hd8 hcomp
    have hops : ∀ t, .tmp t ∈ d.o.op.operands → Reads ops d.o t := fun t ht => Or.inl ht
    have hnd : ((∀ f as, d.act ≠ .defer f as) ∧ d.act ≠ .bad) → ∀ c, d.o.op ≠ .defer c := fun h1 c hc => by
      rcases hok.2 c hc with h2 | ⟨f, as, h2⟩
      · exact h1.2 h2
      · exact h1.1 f as h2
    refine ⟨fun _ _ => trivial, ?_⟩
    have hsnd := hok.1
    cases ha : d.act with
    | p f =>
      rw [ha] at g2 hsnd
      rw [semAt_of _ (hnd (by rw [ha]; simp))]
      obtain ⟨u, hy, hv⟩ := hsnd _ ρ ej a w cj d.o hsj hg hops rfl g2.1
      rw [show (execOp a.eval d.o).run P w = _ from hy]
      exact same u hv g2.2
    | r f =>
      rw [ha] at g2 hsnd
      rw [semAt_of _ (hnd (by rw [ha]; simp))]
      have hdis : ∀ b o, heldBy (fun j => listed.getD j false) p b = some o → h.get b = none := by
        intro b o hb
        obtain ⟨q, hq, _, rfl, _⟩ := heldBy_some hb
        exact (x3.num q hq).2.2.1
      obtain ⟨u, hy, hv⟩ := hsnd KR _ ρ ej a w cj d.o h _ _ n hsj hg hops rfl x2.rel (uni_sub hdis) g2.1
      rw [show (execOp a.eval d.o).run P w = _ from hy]
      exact same u hv g2.2
    | a f =>
      rw [ha] at g2 hsnd
      rw [semAt_of _ (hnd (by rw [ha]; simp))]
      obtain ⟨ob, mk, nj, k1, rfl, k3⟩ := g2
      obtain ⟨x, mm, u, hy, ho, hv⟩ := hsnd _ ρ ej a w d.o ob mk hsj hg hops rfl k1
      rw [hy]
      obtain ⟨z1, z2, z3, z4⟩ := x3.num _ k3
      simp only at z1 z2 z3 z4
      have hb := z4 hnl
      have hstep := Step.allocAt hKR x2 hb z1 z2 ho { w with heap := w.heap.push x } rfl rfl rfl rfl
      have hh : upd (uni h.get (heldBy (fun j => listed.getD j false) p)) nj (some ob) = uni h.get (heldBy (fun j => (listed.setIfInBounds d.i true).getD j false) p) := by
        have hls : ∀ j, (listed.setIfInBounds d.i true).getD j false = true ↔ listed.getD j false = true ∨ j = d.i := fun j => ls_set hlt
        funext b
        unfold upd
        by_cases hbn : b = nj
        · subst hbn
          have := heldBy_mem (sel := fun j => (listed.setIfInBounds d.i true).getD j false) x3.nd k3 ((hls _).2 (Or.inr rfl))
          simp only at this
          rw [if_pos rfl]
          simp only [uni]
          rw [this]
        · rw [if_neg hbn]
          have e1 : heldBy (fun j => (listed.setIfInBounds d.i true).getD j false) p b = heldBy (fun j => listed.getD j false) p b := by
            cases hq : heldBy (fun j => listed.getD j false) p b with
            | some o =>
              obtain ⟨q, hq1, hq2, rfl, rfl⟩ := heldBy_some hq
              exact heldBy_mem x3.nd hq1 ((hls _).2 (Or.inl hq2))
            | none =>
              refine heldBy_none fun q hq1 hq2 hq3 => ?_
              rcases (hls _).1 hq2 with h1 | h1
              · have := heldBy_mem (sel := fun j => listed.getD j false) x3.nd hq1 h1
                rw [hq3, hq] at this
                cases this
              · -- the very block
                have hpw := x3.nd
                by_cases heq : q = (d.i, nj, ob)
                · subst heq; exact hbn hq3.symm
                · exact (nd_ne hpw hq1 k3 heq).1 h1
          simp only [uni]
          rw [e1]
      have hsub : Sub ρ (ext ρ nj (w.heap.size, mm)) := ext_sub hb
      rw [hh] at hstep
      refine hK _ _ ⟨hI.es, hI.len, by simp [hI.size], fun k hk hke => ?_, closed_set hI.closed hlt hget hr, _, e, dl, p, h, c, n, x1, hstep, ⟨fun q hq => ?_, x3.nd, x3.idx⟩,
        settle_put (x4.mono hsub) hlt huniq (fun t ht => by rw [y3 t ht]; exact hv _ nj (ext_same _ _ _)), (hdl u).mono hsub, fun k hk hke hkl hks => ?_⟩
      · rw [ls_set hlt, hI.effs k hk hke]
        constructor
        · rintro (h | h)
          · exact h
          · rw [huniq k hk h] at hke; rw [heff] at hke; cases hke
        · exact Or.inl
      · obtain ⟨t1, t2, t3, t4⟩ := x3.num q hq
        refine ⟨t1, t2, t3, fun hn => ?_⟩
        have hqi : q.1 ≠ d.i := fun h1 => hn ((ls_set hlt).2 (Or.inr h1))
        have hqn : q.2.1 ≠ nj := by
          exact (nd_ne x3.nd hq k3 (fun h1 => hqi (by rw [h1]))).2
        rw [ext_other hqn]
        exact t4 fun hl => hn ((ls_set hlt).2 (Or.inl hl))
      · exact x6 k hk hke (fun hl => hkl ((ls_set hlt).2 (Or.inl hl))) hks
    | e f => rw [ha] at g2; exact g2.elim
    | next it => rw [ha] at g2; exact g2.elim
    | call f as => rw [ha] at g2; exact g2.elim
    | defer f as => rw [ha] at g2; exact g2.elim
    | bad => rw [ha] at g2; exact g2.elim

end
end
end Go.Cm

/-
  The C machine, part Dd: regions without a fixed order: one that acts; the whole.
-/
namespace Go.Cm

section
variable {P : Program} {C : Cx}

theorem Step.raise {KR : KRelT} {ρ ρ' : Ren} {H H' : Nat → Option MObj} {K K' : Nat → Option LObj} {n n' n'' : Nat} {w w' : World} (h : Step KR ρ H K n w ρ' H' K' n' w') (hn : n' ≤ n'') : Step KR ρ H K n w ρ' H' K' n'' w' :=
  ⟨h.sub, ⟨fun b hb => h.rel.fresh b (Nat.le_trans hn hb), h.rel.data, h.rel.ctl, h.rel.inj, h.rel.apart⟩, Nat.le_trans h.le hn, h.size, h.tape, h.os, h.output, h.dom, h.own, h.keep, h.old⟩

theorem gWant_congr {ops : Array Oper} {o : Oper} {e e' : Env} (h : ∀ t, Reads ops o t → t < C.nt → e.look .undef (pth C t) = e'.look .undef (pth C t)) : gWant C ops o.guard e = gWant C ops o.guard e' := by
  cases hg : o.guard with
  | none => rfl
  | some g =>
    obtain ⟨j, b⟩ := g
    simp only [gWant]
    cases hj : (dstAt ops j).bind (slot C) with
    | none => rfl
    | some q =>
      obtain ⟨t, hj1, hj2⟩ := Option.bind_eq_some_iff.1 hj
      obtain ⟨ht, rfl⟩ := slot_some hj2
      simp only
      rw [h t (Or.inr ⟨j, b, hg, hj1⟩) ht]

section
variable {KR : KRelT} {call : CallF} {rd : Option Nat} {Q : SR → Prop} {Q0 : Env → List CDef → Heap → Ctl → Nat → Prop} {ops : Array Oper} {ds : List DOp} {ρ0 : Ren} {h0 : Heap} {c0 : Ctl} {n0 : Nat} {w0 : World}
  {m : Nat} {done left : List DOp} {listed : Array Bool} {a : Act} {w : World}

theorem DrawCx.noself (hX : DrawCx C ops ds) {d : DOp} (hd : d ∈ ds) (he : d.eff = false) (t : Nat) (hr : Reads ops d.o t) : d.o.dst ≠ some t := by
  intro hdt
  have := hX.clash d hd d hd t hr hdt
  simp [clashOk, he, nat_blt_eq] at this

/-- A later one is neither read nor overwritten by one of an earlier stage. -/
theorem DrawCx.apart (hX : DrawCx C ops ds) {d k : DOp} (hd : d ∈ ds) (hk : k ∈ ds) (hde : d.eff = false) (hke : k.eff = false) (h : d.st < k.st ∨ (d.st = k.st ∧ d.i < k.i)) : Apart ops d k := by
  have hne : d ≠ k := by rintro rfl; omega
  refine ⟨fun t hr hkt => ?_, fun t hdt hkt => hne (hX.slot1 d hd k hk t hdt hkt), fun hi => hne (sorted_uniq hX.sorted d hd k hk hi)⟩
  have := hX.clash d hd k hk t hr hkt
  simp only [clashOk, hde, hke, Bool.and_eq_true, Bool.or_eq_true, nat_blt_eq, nat_beq_eq, decide_eq_true_eq] at this
  omega

theorem DrawCx.stage_pw (hX : DrawCx C ops ds) (m : Nat) : (stageL ds m).Pairwise (Apart ops) := by
  unfold stageL
  have hs : (ds.filter fun d => !d.eff && Nat.beq d.st m).Pairwise fun a b => a.i < b.i := hX.sorted.filter _
  refine List.Pairwise.imp_of_mem ?_ hs
  intro a b ha hb hlt
  obtain ⟨a1, a2⟩ := List.mem_filter.1 ha
  obtain ⟨b1, b2⟩ := List.mem_filter.1 hb
  simp only [Bool.and_eq_true, Bool.not_eq_true', nat_beq_eq, decide_eq_true_eq] at a2 b2
  exact hX.apart a1 b1 a2.1 b2.1 (Or.inr ⟨by omega, hlt⟩)

theorem mem_stageL {d : DOp} {m : Nat} : d ∈ stageL ds m ↔ d ∈ ds ∧ d.eff = false ∧ d.st = m := by
  unfold stageL
  rw [List.mem_filter]
  simp [nat_beq_eq]

theorem DInv.listed_st (hX : DrawCx C ops ds) (hI : DInv P C KR call rd Q ops ds ρ0 h0 c0 n0 w0 m done left listed a w) {d : DOp} (hd : d ∈ ds) (hl : Ls listed d.i) : d.st ≤ m :=
  hI.st_le hX hd (hI.closed d.i d.o (hX.get d hd) hl)

/-- The next one that acts. -/
theorem act_step (hKR : KMono KR) (hC : CxOk P C) (hd8 : 8 ≤ P.depth) (hcall : CallSound P KR C.ng call) (hX : DrawCx C ops ds) (hg0 : GRel C.ng ρ0) {rd' : Option Nat} (hrd : RdRel ρ0 rd rd') {d : DOp} {r : List DOp}
    (hI : DInv P C KR call rd Q ops ds ρ0 h0 c0 n0 w0 m done (d :: r) listed a w) (hr : ∀ e ∈ d.o.after.toList, Region.binds .any e = true → Ls listed e.on) {K : Act → World → Prop} {Qx : Exit → Act → World → Prop}
    (hK : ∀ a' w', DInv P C KR call rd Q ops ds ρ0 h0 c0 n0 w0 (m + 1) (d :: done) r (listed.setIfInBounds d.i true) a' w' → K a' w') : wpOpIn (fenceOf rd') 0 P ops Qx d.i K a w := by
  obtain ⟨ρ, e, dl, p, h, c, n, x1, x2, x3, x4, x5, x6⟩ := hI.ex
  obtain ⟨hd, heff⟩ := hI.left_mem (d := d) (by simp)
  have hnl := hI.left_not hX (d := d) (by simp)
  have hget := hX.get d hd
  have hlt : d.i < listed.size := by rw [hI.size]; exact (Array.getElem?_eq_some_iff.1 hget).1
  have huniq : ∀ k ∈ ds, k.i = d.i → k = d := fun k hk hki => sorted_uniq hX.sorted k hk d hd hki
  have hg : GRel C.ng ρ := hg0.mono x2.sub
  have hroom := x4.room
  let is : List Nat := (ds.filter fun k => d.bef.testBit k.i).map (·.i)
  have his : ∀ j, is.contains j = true → Ls listed j := by
    intro j hj
    rw [List.contains_iff_mem] at hj
    obtain ⟨k, hk, rfl⟩ := List.mem_map.1 hj
    obtain ⟨k1, k2⟩ := List.mem_filter.1 hk
    exact hI.ahead hX hd hr k2
  let p1 : Pend := flushP is p
  let h1 : Heap := flushH is p h
  have hp1 : ∀ q, q ∈ p1 ↔ q ∈ p ∧ is.contains q.1 = false := by
    intro q
    show q ∈ p.filter _ ↔ _
    rw [List.mem_filter]
    simp
  have hnd1 : Nd p1 := x3.nd.filter _
  have hh1 : h1.get = uni h.get (heldBy is.contains p) := flushH_get is p x3.nd h
  let L : Nat → Bool := fun j => listed.getD j false
  have hdis1 : ∀ b o, heldBy L p1 b = some o → h1.get b = none := by
    intro b o hb
    obtain ⟨q, hq, _, rfl, _⟩ := heldBy_some hb
    obtain ⟨q1, q2⟩ := (hp1 q).1 hq
    rw [hh1]
    have : heldBy is.contains p q.2.1 = none := heldBy_none fun s hs hsi hsn => by
      by_cases hsq : s = q
      · subst hsq; rw [q2] at hsi; cases hsi
      · exact (nd_ne x3.nd hs q1 hsq).2 hsn
    simp only [uni, this]
    exact (x3.num q q1).2.2.1
  have huni : uni h.get (heldBy L p) = uni h1.get (heldBy L p1) := by
    funext b
    rw [hh1]
    cases hq : heldBy L p b with
    | some o =>
      obtain ⟨q, hq1, hq2, rfl, rfl⟩ := heldBy_some hq
      cases hqi : is.contains q.1 with
      | true =>
        have e1 : heldBy L p1 q.2.1 = none := heldBy_none fun s hs _ hsn => by
          obtain ⟨s1, s2⟩ := (hp1 s).1 hs
          by_cases hsq : s = q
          · subst hsq; rw [hqi] at s2; cases s2
          · exact (nd_ne x3.nd s1 hq1 hsq).2 hsn
        have e2 := heldBy_mem (sel := is.contains) x3.nd hq1 hqi
        simp only [uni, hq, e1, e2]
      | false =>
        have e1 := heldBy_mem (sel := L) hnd1 ((hp1 q).2 ⟨hq1, hqi⟩) hq2
        simp only [uni, hq, e1]
    | none =>
      have e1 : heldBy L p1 b = none := heldBy_none fun s hs hsl hsn => by
        have := heldBy_mem (sel := L) x3.nd ((hp1 s).1 hs).1 hsl
        rw [hsn, hq] at this
        cases this
      have e2 : heldBy is.contains p b = none := heldBy_none fun s hs hsi hsn => by
        have := heldBy_mem (sel := L) x3.nd hs (his _ hsi)
        rw [hsn, hq] at this
        cases this
      simp only [uni, hq, e1, e2]
  have x2' : Step KR ρ0 h0.get c0.get n0 w0 ρ (uni h1.get (heldBy L p1)) c.get n w := huni ▸ x2
  have hrel1 : Rel KR ρ h1.get c.get n w := x2'.rel.part (uni_sub hdis1)
  have hreads : ∀ t, Reads ops d.o t → Settled ds listed t := by
    intro t ht k hk hke hkt
    have := hX.clash d hd k hk t ht hkt
    rw [clashOk, hke, heff] at this
    exact hI.ahead hX hd hr this
  have hrun : (runStep call rd (guardStep C ops d.dst d.o.guard (stepOf d.dst d.act)) (runSteps call rd ((againL ds (d :: done) m).flatMap (againStep C ops) ++ ((stageL ds (m + 1)).map (stageStep C ops) ++ tailOf C ops ds (m + 1) (d :: done) r))) e dl p1 h1 c n).All Q := x1
  have hok : OpOk P C d.o.op d.act := by
    rcases hX.act d hd with hb | hcomp
    · rw [hb]; exact ⟨trivial, fun _ _ => Or.inl rfl⟩
    · exact compOp_ok hC hd8 hcomp
  have hdst := hX.dst d hd
  refine operStep_sound hKR hcall hget hok hrun x4 hreads hg hrel1 x5 (hrd.mono x2.sub) ?_
  rintro a' w' ⟨v, u, ds', h', c', n', ρ', hcont, hv, hstep, hds', htm⟩
  have hframe := hstep.frame (X := heldBy L p1) x2'.rel hdis1
  have htot := x2'.trans hframe
  have hdeep1 : BT.Deep C.d (e.put v d.dst) := deep_put_dst x4.deep hdst v
  obtain ⟨hcont2, hag⟩ := again_run _ hcont
  -- blocks that wait are not in the new memory
  have hfree : ∀ q ∈ p1, h'.get q.2.1 = none := by
    intro q hq
    obtain ⟨q1, q2⟩ := (hp1 q).1 hq
    obtain ⟨z1, z2, z3, z4⟩ := x3.num q q1
    cases hhq : h'.get q.2.1 with
    | none => rfl
    | some o' =>
      rcases hstep.dom q.2.1 (Or.inl (by rw [hhq]; simp)) with hl | hl
      · rcases hl with hl | hl
        · refine (hl ?_).elim
          rw [hh1]
          have : heldBy is.contains p q.2.1 = none := heldBy_none fun s hs hsi hsn => by
            by_cases hsq : s = q
            · subst hsq; rw [q2] at hsi; cases hsi
            · exact (nd_ne x3.nd hs q1 hsq).2 hsn
          simp only [uni, this]
          exact z3
        · by_cases hls : Ls listed q.1
          · have := x2.rel.apart q.2.1 q.2.2 (by
              have := heldBy_mem (sel := L) x3.nd q1 hls
              show uni h.get (heldBy L p) q.2.1 = _
              simp only [uni, this])
            exact (hl this).elim
          · cases hk : c.get q.2.1 with
            | none => exact (hl hk).elim
            | some l =>
              obtain ⟨_, _, _, g1, _⟩ := hrel1.ctl _ _ hk
              rw [z4 hls] at g1
              cases g1
      · omega
  obtain ⟨e', p', n'', k1, k2, k3, k4, k5, k6, k7, k8, k9⟩ := stage_run hroom (stageL ds (m + 1)) (fun k hk => by
      obtain ⟨g1, g2, g3⟩ := mem_stageL.1 hk
      exact ⟨hX.dst k g1, fun t ht => hX.noself g1 g2 t ht, hX.eff k g1, g2⟩) (hX.stage_pw (m + 1)) (e.put v d.dst) ds' p1 h' c' n' hdeep1 hnd1
      (fun q hq => by have := (x3.num q ((hp1 q).1 hq).1).2.1; have := hstep.le; omega)
      (fun k hk q hq he => by
        obtain ⟨g1, g2, g3⟩ := mem_stageL.1 hk
        obtain ⟨k', g4, g5, g6, g7⟩ := x3.idx q ((hp1 q).1 hq).1
        have := sorted_uniq hX.sorted k' g4 k g1 (by rw [g6, he])
        subst this
        omega) hcont2
  have hLs : ∀ j, Ls (listed.setIfInBounds d.i true) j ↔ Ls listed j ∨ j = d.i := fun j => ls_set hlt
  have hstage_un : ∀ k ∈ stageL ds (m + 1), ¬ Ls (listed.setIfInBounds d.i true) k.i := by
    intro k hk hl
    obtain ⟨g1, g2, g3⟩ := mem_stageL.1 hk
    rcases (hLs _).1 hl with hl | hl
    · have := hI.listed_st hX g1 hl; omega
    · rw [huniq k g1 hl] at g2; rw [heff] at g2; cases g2
  have hXeq : heldBy (fun j => (listed.setIfInBounds d.i true).getD j false) p' = heldBy L p1 := by
    refine heldBy_ext k4 hnd1 fun q => ?_
    constructor
    · rintro ⟨q1, q2⟩
      have q2' : Ls (listed.setIfInBounds d.i true) q.1 := q2
      rcases k7 q q1 with q3 | ⟨_, k, hk, hki⟩
      · refine ⟨q3, ?_⟩
        rcases (hLs _).1 q2' with h | h
        · exact h
        · obtain ⟨k', g4, g5, g6, _⟩ := x3.idx q ((hp1 q).1 q3).1
          rw [huniq k' g4 (by rw [g6, h])] at g5
          rw [heff] at g5
          cases g5
      · rw [← hki] at q2'
        exact (hstage_un k hk q2').elim
    · rintro ⟨q1, q2⟩
      exact ⟨k6 q q1, (hLs _).2 (Or.inl q2)⟩
  refine hK a' w' ⟨by rw [hI.es]; simp, by simp [hI.len], by simp [hI.size], fun k hk hke => ?_, closed_set hI.closed hlt hget hr, ρ', e', ds', p', h', c', n'', k1, ?_, ⟨fun q hq => ?_, k4, fun q hq => ?_⟩, ?_, hds', fun k hk hke hkl hks => ?_⟩
  · rw [hLs, hI.effs k hk hke, List.mem_cons]
    constructor
    · rintro (h | h)
      · exact Or.inr h
      · exact Or.inl (huniq k hk h)
    · rintro (rfl | h)
      · exact Or.inr rfl
      · exact Or.inl h
  · rw [hXeq]
    exact htot.raise k3
  · rcases k7 q hq with q1 | ⟨q1, k, hk, hki⟩
    · obtain ⟨z1, z2, z3, z4⟩ := x3.num q ((hp1 q).1 q1).1
      refine ⟨z1, k5 q hq, hfree q q1, fun hn => ?_⟩
      rw [hstep.old _ z2]
      exact z4 fun hl => hn ((hLs _).2 (Or.inl hl))
    · have hle := htot.le
      refine ⟨by omega, k5 q hq, ?_, fun _ => hstep.rel.fresh _ q1⟩
      cases hhq : h'.get q.2.1 with
      | none => rfl
      | some o' =>
        obtain ⟨_, _, _, g1, _⟩ := hstep.rel.data _ _ hhq
        rw [hstep.rel.fresh _ q1] at g1
        cases g1
  · rcases k7 q hq with q1 | ⟨q1, k, hk, hki⟩
    · obtain ⟨k', g4, g5, g6, g7⟩ := x3.idx q ((hp1 q).1 q1).1
      exact ⟨k', g4, g5, g6, by omega⟩
    · obtain ⟨g1, g2, g3⟩ := mem_stageL.1 hk
      exact ⟨k, g1, g2, hki, by omega⟩
  · have hput := (x4.mono hstep.sub).at_dst (a := a) hdst hv
    rw [← htm] at hput
    refine ⟨k2, hput.size, hroom, fun t ht hS => ?_⟩
    rw [k8 t ht fun k hk hkt => by
      obtain ⟨g1, g2, g3⟩ := mem_stageL.1 hk
      exact hstage_un k hk (hS k g1 g2 hkt)]
    refine hput.val t ht (Or.inl fun k hk hke hkt => ?_)
    rcases (hLs _).1 (hS k hk hke hkt) with h | h
    · exact h
    · rw [huniq k hk h] at hke; rw [heff] at hke; cases hke
  · by_cases hkm : k.st = m + 1
    · exact k9 k (mem_stageL.2 ⟨hk, hke, hkm⟩)
    have hks' : k.st ≤ m := by omega
    have hkl' : ¬ Ls listed k.i := fun hl => hkl ((hLs _).2 (Or.inl hl))
    have hkd : k ≠ d := by rintro rfl; rw [heff] at hke; cases hke
    -- what acts does not touch it
    have hnb : d.bef.testBit k.i = false := by
      cases hb : d.bef.testBit k.i with
      | false => rfl
      | true => exact (hkl' (hI.ahead hX hd hr hb)).elim
    have hnk : k.bef.testBit d.i = false := by
      cases hb : k.bef.testBit d.i with
      | false => rfl
      | true =>
        have hpos : ((ds.filter (·.eff)).map (·.i))[m]? = some d.i := by
          rw [hI.es, hI.len, List.getElem?_map, List.getElem?_append_right (by simp)]
          simp
        have := stageOf_after k.bef _ 0 0 m d.i (Nat.le_refl _) hpos hb
        rw [← hX.st k hk] at this
        omega
    have hrd1 : ∀ t, Reads ops k.o t → d.o.dst ≠ some t := by
      intro t ht hdt
      have := hX.clash k hk d hd t ht hdt
      simp [clashOk, hke, heff, hnb, hnk] at this
    have hds1 : ∀ t, k.o.dst = some t → d.o.dst ≠ some t := fun t hkt hdt => hkd (hX.slot1 k hk d hd t hkt hdt)
    have hlook : ∀ t, t < C.nt → (Reads ops k.o t ∨ k.o.dst = some t) → (e.put v d.dst).look .undef (pth C t) = e.look .undef (pth C t) := by
      intro t ht hh
      exact look_put_other hroom x4.deep hdst v ht (hh.elim (hrd1 t) (hds1 t))
    have hkdst := hX.dst k hk
    -- at the new memory
    have hran1 : Ran C ops k (e.put v d.dst) p1 h' := by
      obtain ⟨ej, cj, y1, y2, y3, y4⟩ := x6 k hk hke hkl' hks'
      have y2' : ∀ t, Reads ops k.o t → t < C.nt → ej.look .undef (pth C t) = (e.put v d.dst).look .undef (pth C t) := fun t ht hn => by rw [y2 t ht hn, hlook t hn (Or.inl ht)]
      have y3' : ∀ t, k.o.dst = some t → (e.put v d.dst).look .undef (pth C t) = cj := fun t ht => by rw [hlook t (dst_lt hkdst ht) (Or.inr ht), y3 t ht]
      have hps : (∀ q ∈ p, q.1 ≠ k.i) → ∀ q ∈ p1, q.1 ≠ k.i := fun hp q hq => hp q ((hp1 q).1 hq).1
      rcases y4 with ⟨g1, g2, g3⟩ | ⟨g1, g2⟩
      · exact ⟨ej, cj, y1, y2', y3', Or.inl ⟨g1, g2, hps g3⟩⟩
      · cases ha : k.act with
        | p f =>
          rw [ha] at g2
          exact ⟨ej, cj, y1, y2', y3', Or.inr ⟨g1, by rw [ha]; exact ⟨g2.1, hps g2.2⟩⟩⟩
        | r f =>
          rw [ha] at g2
          have hmem : k ∈ againL ds (d :: done) m := by
            unfold againL
            rw [List.mem_filter]
            refine ⟨hk, ?_⟩
            simp only [hke, Bool.not_false, Bool.true_and, Bool.and_eq_true, Nat.ble_eq, Bool.not_eq_true']
            refine ⟨hks', ?_⟩
            rw [List.any_eq_false]
            intro x hx hb
            rcases List.mem_cons.1 hx with rfl | hx
            · rw [hnb] at hb; cases hb
            · obtain ⟨q1, q2⟩ := hI.done_mem hx
              have hxl : Ls listed x.i := (hI.effs x q1 q2).2 hx
              have := hX.bef x q1
              rw [this] at hb
              exact hkl' (bef_closed hI.closed x.i x.o (hX.get x q1) (hI.closed x.i x.o (hX.get x q1) hxl) _ hb)
          have hgw : gWant C ops k.o.guard (e.put v d.dst) = some true := by
            rw [← gWant_congr (fun t ht hn => y2' t ht hn)]; exact g1
          rcases hag k hmem f ha with hf | ⟨_, hf⟩
          · rw [hgw] at hf; cases hf
          · refine ⟨e.put v d.dst, (e.put v d.dst).look .undef k.dst, hdeep1, fun _ _ _ => rfl, fun t ht => by rw [dst_path hkdst ht], Or.inr ⟨hgw, ?_⟩⟩
            rw [ha]
            exact ⟨hf, hps g2.2⟩
        | a f =>
          rw [ha] at g2
          obtain ⟨ob, mk, nj, z1, z2, z3⟩ := g2
          refine ⟨ej, cj, y1, y2', y3', Or.inr ⟨g1, ?_⟩⟩
          rw [ha]
          refine ⟨ob, mk, nj, z1, z2, (hp1 _).2 ⟨z3, ?_⟩⟩
          cases hci : is.contains k.i with
          | false => rfl
          | true => exact (hkl' (his _ hci)).elim
        | e f => rw [ha] at g2; exact g2.elim
        | next it => rw [ha] at g2; exact g2.elim
        | call f as => rw [ha] at g2; exact g2.elim
        | defer f as => rw [ha] at g2; exact g2.elim
        | bad => rw [ha] at g2; exact g2.elim
    refine hran1.more (fun t ht hh => k8 t ht fun x hx => ?_) (fun t ht => dst_lt hkdst ht) (fun q hq _ => k6 q hq) (fun q hq => ?_)
    · obtain ⟨g1, g2, g3⟩ := mem_stageL.1 hx
      have hap := hX.apart hk g1 hke g2 (Or.inl (by omega))
      exact hh.elim (hap.1 t) (hap.2.1 t)
    · rcases k7 q hq with q1 | ⟨_, x, hx, hxi⟩
      · exact Or.inl q1
      · obtain ⟨g1, g2, g3⟩ := mem_stageL.1 hx
        have hap := hX.apart hk g1 hke g2 (Or.inl (by omega))
        exact Or.inr (by rw [← hxi]; exact hap.2.2.symm)

/-- All is done. -/
theorem draw_end (hX : DrawCx C ops ds) (hI : DInv P C KR call rd (fun r => SR.rec (motive := fun _ => Prop) Q0 r) ops ds ρ0 h0 c0 n0 w0 m done left listed a w) (hall : ∀ j, j < ops.size → Ls listed j) : Behind P C KR ρ0 h0 c0 n0 w0 Q0 a w := by
  have hidx : ∀ d ∈ ds, Ls listed d.i := fun d hd => hall d.i (Array.getElem?_eq_some_iff.1 (hX.get d hd)).1
  obtain rfl : left = [] := by
    cases left with
    | nil => rfl
    | cons d r => exact (hI.left_not hX (d := d) (by simp) (hidx d (hI.left_mem (d := d) (by simp)).1)).elim
  obtain ⟨ρ, e, dl, p, h, c, n, x1, x2, x3, x4, x5, x6⟩ := hI.ex
  let is : List Nat := ds.map (·.i)
  have x1' : (List.rec (motive := fun _ => Tree SR) (.ret (.mk e dl (flushH is p h) c n)) (fun _ _ _ => .fail) (flushP is p) : Tree SR).All fun r => SR.rec (motive := fun _ => Prop) Q0 r := x1
  cases hfp : flushP is p with
  | cons q r => rw [hfp] at x1'; exact x1'.elim
  | nil =>
    rw [hfp] at x1'
    have x1'' : Q0 e dl (flushH is p h) c n := x1'
    have hisp : ∀ q ∈ p, is.contains q.1 = true := by
      intro q hq
      obtain ⟨d, hd, _, hdi, _⟩ := x3.idx q hq
      rw [List.contains_iff_mem]
      exact List.mem_map.2 ⟨d, hd, hdi⟩
    have hh : (flushH is p h).get = uni h.get (heldBy (fun j => listed.getD j false) p) := by
      rw [flushH_get is p x3.nd h]
      congr 1
      refine heldBy_ext x3.nd x3.nd fun q => and_congr_right fun hq => ?_
      obtain ⟨d, hd, _, hdi, _⟩ := x3.idx q hq
      have : listed.getD q.1 false = true := by rw [← hdi]; exact hidx d hd
      rw [this, hisp q hq]
    refine ⟨e, dl, flushH is p h, c, n, ρ, x1'', x4.weaken fun t _ d hd _ _ => hidx d hd, x5, ?_⟩
    rw [hh]
    exact x2

theorem filter_less {p q : Nat → Bool} : ∀ (l : List Nat) (i : Nat), i ∈ l → p i = true → q i = false → (∀ j, q j = true → p j = true) → (l.filter q).length < (l.filter p).length
  | [], _, h, _, _, _ => by simp at h
  | x :: l, i, h, hp, hq, hi => by
    have hle : ∀ l : List Nat, (l.filter q).length ≤ (l.filter p).length := by
      intro l
      induction l with
      | nil => simp
      | cons y l ih =>
        simp only [List.filter_cons]
        cases hqy : q y with
        | true => rw [hi y hqy]; simp; exact ih
        | false => cases p y <;> simp <;> omega
    simp only [List.filter_cons]
    rcases List.mem_cons.1 h with rfl | h
    · rw [hp, hq]
      simp
      have := hle l
      omega
    · have := filter_less l i h hp hq hi
      cases hqx : q x with
      | true => rw [hi x hqx]; simp; exact this
      | false => cases p x <;> simp <;> omega

/-- How many are not done. -/
def undone (n : Nat) (listed : Array Bool) : Nat := ((List.range n).filter fun j => !listed.getD j false).length

theorem draw_any (hKR : KMono KR) (hC : CxOk P C) (hd8 : 8 ≤ P.depth) (hcall : CallSound P KR C.ng call) (hX : DrawCx C ops ds) (hg0 : GRel C.ng ρ0) {rd' : Option Nat} (hrd : RdRel ρ0 rd rd') {Qx : Exit → Act → World → Prop}
    (hQ : ∀ a w, Behind P C KR ρ0 h0 c0 n0 w0 Q0 a w → Qx .normal a w) : ∀ (fuel m : Nat) (done left : List DOp) (listed : Array Bool) (a : Act) (w : World), undone ops.size listed ≤ fuel →
      DInv P C KR call rd (fun r => SR.rec (motive := fun _ => Prop) Q0 r) ops ds ρ0 h0 c0 n0 w0 m done left listed a w → wpAnyIn (fenceOf rd') 0 P .any ops Qx fuel listed a w := by
  have hready : ∀ (listed : Array Bool), listed.size = ops.size → Region.ready .any ops listed = [] → ∀ j, j < ops.size → Ls listed j := by
    intro listed hsz hr j
    induction j using Nat.strongRecOn with
    | _ j ih =>
      intro hj
      cases hl : listed.getD j false with
      | true => exact hl
      | false =>
        have hmem : j ∈ Region.ready .any ops listed := by
          rw [mem_ready]
          refine ⟨?_, ops[j], Array.getElem?_eq_getElem hj, fun e he hb => ?_⟩
          · have : j < listed.size := by omega
            simp [Array.getD, this] at hl ⊢
            exact hl
          · obtain ⟨d, hd, rfl⟩ := hX.all j hj
            have hg := hX.get d hd
            rw [Array.getElem?_eq_getElem hj] at hg
            simp only [Option.some.injEq] at hg
            have hlt := hX.ahead d hd e (by rw [← hg]; simpa using he) hb
            exact ih e.on hlt (by omega)
        rw [hr] at hmem
        simp at hmem
  intro fuel
  induction fuel with
  | zero =>
    intro m done left listed a w hu hI
    have hall : ∀ j, j < ops.size → Ls listed j := by
      intro j hj
      cases hl : listed.getD j false with
      | true => exact hl
      | false =>
        have : j ∈ (List.range ops.size).filter fun j => !listed.getD j false := by
          rw [List.mem_filter]
          exact ⟨by simpa using hj, by simp only [hl]; rfl⟩
        have h0 : ((List.range ops.size).filter fun j => !listed.getD j false) = [] := List.eq_nil_of_length_eq_zero (by unfold undone at hu; omega)
        rw [h0] at this
        simp at this
    refine ⟨?_, hQ a w (draw_end hX hI hall)⟩
    apply List.eq_nil_iff_forall_not_mem.2
    intro i hi
    obtain ⟨h1, h2, _⟩ := ready_spec hi hI.size
    exact h2 (hall i h1)
  | succ fuel ih =>
    intro m done left listed a w hu hI
    refine ⟨fun hr => hQ a w (draw_end hX hI (hready listed hI.size hr)), fun i hi => ?_⟩
    obtain ⟨h1, h2, o, ho, hr⟩ := ready_spec hi hI.size
    obtain ⟨d, hd, rfl⟩ := hX.all i h1
    have hg := hX.get d hd
    rw [ho] at hg
    simp only [Option.some.injEq] at hg
    subst hg
    have hlt : d.i < listed.size := by rw [hI.size]; exact h1
    have hless : undone ops.size (listed.setIfInBounds d.i true) ≤ fuel := by
      have : undone ops.size (listed.setIfInBounds d.i true) < undone ops.size listed := by
        unfold undone
        refine filter_less _ d.i (by simpa using h1) ?_ ?_ ?_
        · unfold Ls at h2
          simpa using h2
        · have : Ls (listed.setIfInBounds d.i true) d.i := (ls_set hlt).2 (Or.inr rfl)
          unfold Ls at this
          rw [this]
          rfl
        · intro j hj
          have h3 : ¬ Ls (listed.setIfInBounds d.i true) j := by
            unfold Ls
            simpa using hj
          have h4 : ¬ Ls listed j := fun h => h3 ((ls_set hlt).2 (Or.inl h))
          unfold Ls at h4
          simpa using h4
      omega
    cases heff : d.eff with
    | false => exact quiet_step hKR hC hd8 hX hg0 hI hd heff h2 hr fun a' w' hI' => ih m done left _ a' w' hless hI'
    | true =>
      -- it is the next one
      have hmem : d ∈ left := by
        have : d ∈ ds.filter (·.eff) := List.mem_filter.2 ⟨hd, heff⟩
        rw [hI.es, List.mem_append, List.mem_reverse] at this
        rcases this with h | h
        · exact (h2 ((hI.effs d hd heff).2 h)).elim
        · exact h
      cases left with
      | nil => simp at hmem
      | cons x r =>
        have hxd : x = d := by
          rcases List.mem_cons.1 hmem with h | h
          · exact h.symm
          · exfalso
            obtain ⟨pre, post, hsplit⟩ := List.append_of_mem h
            -- the one ahead of it
            obtain ⟨ys, y, hy⟩ : ∃ ys y, x :: pre = ys ++ [y] := by
              rcases List.eq_nil_or_concat (x :: pre) with h | ⟨ys, y, h⟩
              · cases h
              · exact ⟨ys, y, by simpa using h⟩
            have hch := hX.chain
            rw [hI.es, hsplit, show x :: (pre ++ d :: post) = (x :: pre) ++ d :: post by simp, hy] at hch
            have hb := chainOk_adj (done.reverse ++ ys) y d post (by simpa using hch)
            have hyl := hI.ahead hX hd hr hb
            have hymem : y ∈ x :: r := by
              rw [hsplit, show x :: (pre ++ d :: post) = (x :: pre) ++ d :: post by simp, hy]
              simp
            exact hI.left_not hX hymem hyl
        subst hxd
        exact act_step hKR hC hd8 hcall hX hg0 hrd hI hr fun a' w' hI' => ih (m + 1) (x :: done) r _ a' w' hless hI'

/-- A region without a fixed order. -/
theorem draw_sound (hKR : KMono KR) (hC : CxOk P C) (hd8 : 8 ≤ P.depth) (hm : P.follows .mixedOrders = true) (hcall : CallSound P KR C.ng call) {rd' : Option Nat} {Qx : Exit → Act → World → Prop} {ρ : Ren} {e : Env} {dl : List CDef} {h : Heap} {c : Ctl} {n : Nat}
    (hrun : (runSteps call rd (compDraw C ops) e dl [] h c n).All fun r => SR.rec (motive := fun _ => Prop) Q0 r) (hs : SRel C (fun _ => True) ρ e a.tmps) (hg : GRel C.ng ρ) (hds : DsRel P ρ dl a.defers) (hrd : RdRel ρ rd rd') (hrel : Rel KR ρ h.get c.get n w)
    (hQ : ∀ a' w', Behind P C KR ρ h c n w Q0 a' w' → Qx .normal a' w') (id : Nat) : (Code.region id ops true).wpIn (fenceOf rd') 0 P Qx a w := by
  refine wpIn_region_any hm ?_
  unfold compDraw drawSteps at hrun
  cases hchk : (dopsOf C ops).all (dopOk C ops (dopsOf C ops)) && chainOk ((dopsOf C ops).filter (·.eff)) with
  | false => rw [hchk] at hrun; exact hrun.elim
  | true =>
    rw [hchk] at hrun
    simp only at hrun
    rw [Bool.and_eq_true] at hchk
    have hX := drawCx (C := C) ops hchk.1 hchk.2
    obtain ⟨e', p', n', k1, k2, k3, k4, k5, k6, k7, k8, k9⟩ := stage_run hs.room (stageL (dopsOf C ops) 0) (fun k hk => by
        obtain ⟨g1, g2, g3⟩ := mem_stageL.1 hk
        exact ⟨hX.dst k g1, fun t ht => hX.noself g1 g2 t ht, hX.eff k g1, g2⟩) (hX.stage_pw 0) e dl [] h c n hs.deep (List.Pairwise.nil) (by simp) (by simp) hrun
    have hno : ∀ j, ¬ Ls (Array.replicate ops.size false) j := by
      intro j
      unfold Ls
      by_cases hj : j < ops.size <;> simp [Array.getD, hj]
    have hheld : heldBy (fun j => (Array.replicate ops.size false).getD j false) p' = fun _ => none := by
      funext b
      exact heldBy_none fun q _ hq => (hno q.1 hq).elim
    have hp' : ∀ q ∈ p', n ≤ q.2.1 ∧ ∃ d ∈ stageL (dopsOf C ops) 0, d.i = q.1 := by
      intro q hq
      rcases k7 q hq with h | h
      · simp at h
      · exact h
    refine draw_any hKR hC hd8 hcall hX hg hrd hQ ops.size 0 [] _ _ a _ ?_ ⟨by simp, rfl, by simp, fun d _ _ => ?_, fun j o _ hl => (hno j hl).elim, ρ, e', dl, p', h, c, n', k1, ?_, ⟨fun q hq => ?_, k4, fun q hq => ?_⟩, ?_, hds, fun d hd hde _ hst => ?_⟩
    · unfold undone
      exact Nat.le_trans (List.length_filter_le _ _) (by simp)
    · simp only [List.not_mem_nil, iff_false]
      exact hno d.i
    · rw [hheld, uni_none]
      exact (Step.drawn hrel _).raise k3
    · obtain ⟨h1, _⟩ := hp' q hq
      refine ⟨h1, k5 q hq, ?_, fun _ => hrel.fresh _ h1⟩
      cases hhq : h.get q.2.1 with
      | none => rfl
      | some o' =>
        obtain ⟨_, _, _, g1, _⟩ := hrel.data _ _ hhq
        rw [hrel.fresh _ h1] at g1
        cases g1
    · obtain ⟨_, d, hd, hdi⟩ := hp' q hq
      obtain ⟨g1, g2, g3⟩ := mem_stageL.1 hd
      exact ⟨d, g1, g2, hdi, by omega⟩
    · refine ⟨k2, hs.size, hs.room, fun t ht hS => ?_⟩
      rw [k8 t ht fun d hd hdt => by
        obtain ⟨g1, g2, g3⟩ := mem_stageL.1 hd
        exact hno d.i (hS d g1 g2 hdt)]
      exact hs.val t ht trivial
    · exact k9 d (mem_stageL.2 ⟨hd, hde, by omega⟩)

end
end
end Go.Cm
#print axioms Go.Cm.draw_sound
