import Derived.Below
import Derived.LoopNIn
import Derived.RangeFuncLeaves
import Derived.Test.YtdagpgccjamkmaaC3
/-
  The C machine, part Ea: code.
-/
namespace Go.Cm

section
variable {P : Program}

def XRel : CExit → Exit → Prop
  | .normal, .normal => True
  | .exit i, .exit j => i = j
  | .ret, .ret => True
  | _, _ => False

/-- What holds behind code, whatever way it is left. -/
def BehindX (P : Program) (C : Cx) (KR : KRelT) (ρ : Ren) (h : Heap) (c : Ctl) (n : Nat) (w : World) (Q : CExit → Env → List CDef → Heap → Ctl → Nat → Prop) (x : Exit) (a' : Act) (w' : World) : Prop :=
  ∃ cx, XRel cx x ∧ Behind P C KR ρ h c n w (Q cx) a' w'

def RunsOk (P : Program) (C : Cx) (KR : KRelT) (rd rd' : Option Nat) (run : RunF) (W : (Exit → Act → World → Prop) → Act → World → Prop) : Prop :=
  ∀ (e : Env) (ds : List CDef) (h : Heap) (c : Ctl) (n : Nat) (Q : CExit → Env → List CDef → Heap → Ctl → Nat → Prop), ((run e ds h c n).All fun r => Cfg.rec (motive := fun _ => Prop) Q r) →
    ∀ (ρ : Ren) (a : Act) (w : World), SRel C (fun _ => True) ρ e a.tmps → GRel C.ng ρ → DsRel P ρ ds a.defers → RdRel ρ rd rd' → Rel KR ρ h.get c.get n w → W (BehindX P C KR ρ h c n w Q) a w

/-- A loop of which a round has ended. -/
def inLoopIn (F : Fence) (n : Nat) (P : Program) (c : Code) (Q : Exit → Act → World → Prop) (a : Act) (w : World) : Prop :=
  ∀ (b : Frame) (k : List Item) (cs : List Frame), b.roundOf = F.round → F.fn b.fn → F.room (cs.length + 1 + n) →
    ∃ e a' w', Q e a' w' ∧ ArrivesIn (Machine.fenced P F) P (lone (b.atR a (.inLoop c :: k)) cs w) b k cs e a' w'

theorem loop_rounds {F : Fence} {n : Nat} {c : Code} {Q : Exit → Act → World → Prop} {a : Act} {w : World} (h : c.wpIn F n P (Exit.then (inLoopIn F n P c Q) Q) a w) (b : Frame) (k : List Item) (cs : List Frame) (hro : b.roundOf = F.round) (hb : F.fn b.fn) (hr : F.room (cs.length + 1 + n)) :
    ∃ e a' w', Q e a' w' ∧ ArrivesIn (Machine.fenced P F) P (lone (b.atR a (.code c :: .inLoop c :: k)) cs w) b k cs e a' w' := by
  obtain ⟨e, a₁, w₁, hq, harr⟩ := h b (.inLoop c :: k) cs hro hb hr
  cases e with
  | normal =>
    obtain ⟨e₂, a₂, w₂, hq₂, harr₂⟩ := hq b k cs hro hb hr
    exact ⟨e₂, a₂, w₂, hq₂, .of_steps harr harr₂⟩
  | exit id => exact ⟨_, a₁, w₁, hq, .pass (x := .inLoop c) rfl (fun _ _ => .inl (by simp)) harr⟩
  | goto l => exact ⟨_, a₁, w₁, hq, .pass (x := .inLoop c) rfl (fun _ _ => .inl (by simp)) harr⟩
  | ret => exact ⟨_, a₁, w₁, hq, .pass (x := .inLoop c) rfl (fun _ _ => .inl (by simp)) harr⟩
  | panic ch => exact ⟨_, a₁, w₁, hq, .pass (x := .inLoop c) rfl (fun _ _ => .inl (by simp)) harr⟩
  | outgrown => exact ⟨_, a₁, w₁, hq, .pass (x := .inLoop c) rfl (fun _ _ => .inl (by simp)) harr⟩

theorem inLoopIn_of {F : Fence} {n : Nat} {c : Code} {Q : Exit → Act → World → Prop} {a : Act} {w : World} (h : c.wpIn F n P (Exit.then (inLoopIn F n P c Q) Q) a w) : inLoopIn F n P c Q a w := by
  intro b k cs hro hb hr
  obtain ⟨e, a', w', hq, harr⟩ := loop_rounds h b k cs hro hb hr
  exact ⟨e, a', w', hq, .of_steps (.one (fenced_calm hb hr rfl) stepR_inLoop) harr⟩

theorem loop_of {F : Fence} {n : Nat} {c : Code} {Q : Exit → Act → World → Prop} {a : Act} {w : World} (h : c.wpIn F n P (Exit.then (inLoopIn F n P c Q) Q) a w) : (Code.loop c).wpIn F n P Q a w := by
  intro b k cs hro hb hr
  obtain ⟨e, a', w', hq, harr⟩ := loop_rounds h b k cs hro hb hr
  exact ⟨e, a', w', hq, .of_steps (.one (fenced_calm hb hr rfl) stepR_loop) harr⟩

theorem inLoopIn_mono {F : Fence} {n : Nat} {c : Code} {Q Q' : Exit → Act → World → Prop} {a : Act} {w : World} (h : inLoopIn F n P c Q a w) (hq : ∀ e a w, Q e a w → Q' e a w) : inLoopIn F n P c Q' a w :=
  fun b k cs hro hb hr => let ⟨e, a', w', q, r⟩ := h b k cs hro hb hr; ⟨e, a', w', hq _ _ _ q, r⟩

theorem stepR_scope {b : Frame} {a : Act} {k : List Item} {cs : List Frame} {w : World} {c : Code} :
    step P (lone (b.atR a (.code (.scope c) :: k)) cs w) = .next (lone (b.atR a (.code c :: .inScope c :: k)) cs w) :=
  step_lone_go (by simp [stepG, stepG.exec, Frame.atR])
theorem stepR_inScope {b : Frame} {a : Act} {k : List Item} {cs : List Frame} {w : World} {c : Code} :
    step P (lone (b.atR a (.inScope c :: k)) cs w) = .next (lone (b.atR a k) cs w) :=
  step_lone_go (by simp [stepG, stepG.exec, Frame.atR])

/-- A scope that no goto leaves. -/
theorem wpIn_scope {F : Fence} {n : Nat} {c : Code} {Q : Exit → Act → World → Prop} {a : Act} {w : World} (h : c.wpIn F n P Q a w) (hg : ∀ l a w, ¬ Q (.goto l) a w) : (Code.scope c).wpIn F n P Q a w := by
  intro b k cs hro hb hr
  have h0 : (lone (b.atR a (.code (.scope c) :: k)) cs w).fenced P F := fenced_calm hb hr rfl
  obtain ⟨e, a₁, w₁, hq, harr⟩ := h b (.inScope c :: k) cs hro hb hr
  have hx : ∀ id, exitTo id (.inScope c :: k) = exitTo id k := fun id => rfl
  cases e with
  | normal => exact ⟨.normal, a₁, w₁, hq, .head h0 stepR_scope (StepsIn.trans harr (.one (fenced_calm hb hr rfl) stepR_inScope))⟩
  | exit id => exact ⟨.exit id, a₁, w₁, hq, fun k' hk => .head h0 stepR_scope (harr.1 k' (by rw [hx]; exact hk)),
        fun hr' hk => let ⟨k₁, h1, h2⟩ := harr.2 hr' (by rw [hx]; exact hk); ⟨k₁, h1, .head h0 stepR_scope h2⟩⟩
  | goto l => exact (hg l a₁ w₁ hq).elim
  | ret => exact ⟨_, a₁, w₁, hq, .of_steps (.one h0 stepR_scope) harr⟩
  | panic ch => exact ⟨_, a₁, w₁, hq, .of_steps (.one h0 stepR_scope) harr⟩
  | outgrown => exact ⟨_, a₁, w₁, hq, .of_steps (.one h0 stepR_scope) harr⟩

theorem BehindX.no_goto {C : Cx} {KR : KRelT} {ρ : Ren} {h : Heap} {c : Ctl} {n : Nat} {w : World} {Q : CExit → Env → List CDef → Heap → Ctl → Nat → Prop} {l : Nat} {a' : Act} {w' : World} : ¬ BehindX P C KR ρ h c n w Q (.goto l) a' w' := by
  rintro ⟨cx, hx, _⟩
  cases cx <;> exact hx

theorem Behind.from {C : Cx} {KR : KRelT} {ρ ρ1 : Ren} {h h1 : Heap} {c c1 : Ctl} {n n1 : Nat} {w w1 : World} {Q : Env → List CDef → Heap → Ctl → Nat → Prop} {a' : Act} {w' : World} (hs : Step KR ρ h.get c.get n w ρ1 h1.get c1.get n1 w1)
    (hb : Behind P C KR ρ1 h1 c1 n1 w1 Q a' w') : Behind P C KR ρ h c n w Q a' w' := by
  obtain ⟨e', ds', h', c', n', ρ', q1, q2, q3, q4⟩ := hb
  exact ⟨e', ds', h', c', n', ρ', q1, q2, q3, hs.trans q4⟩

theorem BehindX.from {C : Cx} {KR : KRelT} {ρ ρ1 : Ren} {h h1 : Heap} {c c1 : Ctl} {n n1 : Nat} {w w1 : World} {Q : CExit → Env → List CDef → Heap → Ctl → Nat → Prop} {x : Exit} {a' : Act} {w' : World} (hs : Step KR ρ h.get c.get n w ρ1 h1.get c1.get n1 w1)
    (hb : BehindX P C KR ρ1 h1 c1 n1 w1 Q x a' w') : BehindX P C KR ρ h c n w Q x a' w' := by
  obtain ⟨cx, h1, h2⟩ := hb
  exact ⟨cx, h1, h2.from hs⟩

theorem region_map (C : Cx) (ops : Array Oper) : ops.toList.map (compOper C ops) = (List.range ops.size).map fun i => compOper C ops (ops.getD i default) := by
  apply List.ext_getElem
  · simp
  · intro i h1 h2
    simp at h1
    simp [Array.getD, h1]

/-- What code comes to, if what it calls, and the loops' further rounds, are sound. -/
theorem runCode_sound {KR : KRelT} (hKR : KMono KR) (hd8 : 8 ≤ P.depth) (hm : P.follows .mixedOrders = true) {C : Cx} (hC : CxOk P C) {E : Evals} (hcall : CallSound P KR C.ng E.call)
    (hloop : ∀ (c : Code) (rd rd' : Option Nat), RunsOk P C KR rd rd' (E.code (.loop (compCode C c)) rd) (inLoopIn (fenceOf rd') 0 P c))
    (hrange : ∀ (f : Operand) (ps : Array Tmp) (asg body : Code) (rd rd' : Option Nat), RunsOk P C KR rd rd' (runCode E rd (compCode C (.rangeFunc f ps asg body))) ((Code.rangeFunc f ps asg body).wpIn (fenceOf rd') 0 P)) :
    ∀ (code : Code) (rd rd' : Option Nat), RunsOk P C KR rd rd' (runCode E rd (compCode C code)) (code.wpIn (fenceOf rd') 0 P) := by
  have bad : ∀ (code : Code), compCode C code = .region [.bad] → ∀ (rd rd' : Option Nat), RunsOk P C KR rd rd' (runCode E rd (compCode C code)) (code.wpIn (fenceOf rd') 0 P) := by
    intro code hb rd rd' e ds h c n Q hrun
    rw [hb] at hrun
    exact (show False from hrun).elim
  intro code
  induction code with
  | skip =>
    intro rd rd' e ds h c n Q hrun ρ a w hs hg hds hrd hrel
    exact wpIn_skip ⟨.normal, trivial, e, ds, h, c, n, ρ, hrun, hs, hds, Step.refl hrel⟩
  | label l =>
    intro rd rd' e ds h c n Q hrun ρ a w hs hg hds hrd hrel
    exact wpIn_label ⟨.normal, trivial, e, ds, h, c, n, ρ, hrun, hs, hds, Step.refl hrel⟩
  | ret =>
    intro rd rd' e ds h c n Q hrun ρ a w hs hg hds hrd hrel
    exact wpIn_ret ⟨.ret, trivial, e, ds, h, c, n, ρ, hrun, hs, hds, Step.refl hrel⟩
  | exit id =>
    intro rd rd' e ds h c n Q hrun ρ a w hs hg hds hrd hrel
    exact wpIn_exit ⟨.exit id, rfl, e, ds, h, c, n, ρ, hrun, hs, hds, Step.refl hrel⟩
  | goto l => exact bad _ rfl
  | refuse why => exact bad _ rfl
  | scope b ih =>
    intro rd rd' e ds h c n Q hrun ρ a w hs hg hds hrd hrel
    exact wpIn_scope (ih rd rd' e ds h c n Q hrun ρ a w hs hg hds hrd hrel) fun l a w hb => hb.no_goto
  | region id ops draw =>
    intro rd rd' e ds h c n Q hrun ρ a w hs hg hds hrd hrel
    have hpost : ∀ a' w', Behind P C KR ρ h c n w (Q .normal) a' w' → BehindX P C KR ρ h c n w Q .normal a' w' := fun a' w' hb => ⟨.normal, trivial, hb⟩
    cases draw with
    | false =>
      have hrun' : ((runSteps E.call rd (ops.toList.map (compOper C ops)) e ds [] h c n).bind fun r => SR.rec (motive := fun _ => Tree Cfg) (fun e ds h c n => .ret (.mk .normal e ds h c n)) r).All fun r => Cfg.rec (motive := fun _ => Prop) Q r := hrun
      rw [Tree.all_bind, region_map] at hrun'
      exact wpIn_region (seq_sound hKR hC hd8 hcall (Q := Q .normal) hpost (List.range ops.size) (fun i hi => by simpa using hi) e ds h c n ρ a w (hrun'.mono fun r hr => by cases r; exact hr) hs hg hds hrd (Step.refl hrel))
    | true =>
      have hrun' : ((runSteps E.call rd (compDraw C ops) e ds [] h c n).bind fun r => SR.rec (motive := fun _ => Tree Cfg) (fun e ds h c n => .ret (.mk .normal e ds h c n)) r).All fun r => Cfg.rec (motive := fun _ => Prop) Q r := hrun
      rw [Tree.all_bind] at hrun'
      exact draw_sound hKR hC hd8 hm hcall (Q0 := Q .normal) (hrun'.mono fun r hr => by cases r; exact hr) hs hg hds hrd hrel hpost id
  | seq x y ihx ihy =>
    intro rd rd' e ds h c n Q hrun ρ a w hs hg hds hrd hrel
    have hrun' : ((runCode E rd (compCode C x) e ds h c n).bind fun r => onNormal r (runCode E rd (compCode C y))).All fun r => Cfg.rec (motive := fun _ => Prop) Q r := hrun
    rw [Tree.all_bind] at hrun'
    refine wpIn_seq (wpIn_mono (ihx rd rd' e ds h c n (fun cx e ds h c n => (onNormal (.mk cx e ds h c n) (runCode E rd (compCode C y))).All fun r => Cfg.rec (motive := fun _ => Prop) Q r) (hrun'.mono fun r hr => by cases r; exact hr) ρ a w hs hg hds hrd hrel) ?_)
    rintro x' a' w' ⟨cx, hx, e', ds', h', c', n', ρ', q1, q2, q3, q4⟩
    cases cx with
    | normal =>
      cases x' <;> first | exact hx.elim | skip
      have := ihy rd rd' e' ds' h' c' n' Q q1 ρ' a' w' q2 (hg.mono q4.sub) q3 (hrd.mono q4.sub) q4.rel
      exact wpIn_mono this fun x'' a'' w'' hb => hb.from q4
    | exit i =>
      cases x' <;> first | exact hx.elim | skip
      exact ⟨.exit i, hx, e', ds', h', c', n', ρ', q1, q2, q3, q4⟩
    | ret =>
      cases x' <;> first | exact hx.elim | skip
      exact ⟨.ret, trivial, e', ds', h', c', n', ρ', q1, q2, q3, q4⟩
  | cond x p q ihp ihq =>
    intro rd rd' e ds h c n Q hrun ρ a w hs hg hds hrd hrel
    cases hx : opd C x with
    | none =>
      simp only [compCode, hx] at hrun
      exact (show False from hrun).elim
    | some y =>
      simp only [compCode, hx] at hrun
      have hrun' : (asBool (ev e y) (runCode E rd (compCode C p) e ds h c n) (runCode E rd (compCode C q) e ds h c n) .fail).All fun r => Cfg.rec (motive := fun _ => Prop) Q r := hrun
      have hv := opd_rel hs hg (xs := #[x]) (fun _ _ => trivial) (by simp) hx
      generalize ev e y = cv at hrun' hv
      cases cv <;> try exact (show False from hrun').elim
      rename_i b
      have hb := hv.bool_inv
      cases b
      · exact wpIn_cond_false hb (ihq rd rd' e ds h c n Q hrun' ρ a w hs hg hds hrd hrel)
      · exact wpIn_cond_true hb (ihp rd rd' e ds h c n Q hrun' ρ a w hs hg hds hrd hrel)
  | block id b ih =>
    intro rd rd' e ds h c n Q hrun ρ a w hs hg hds hrd hrel
    have hrun' : ((runCode E rd (compCode C b) e ds h c n).bind fun r => inBlock id r).All fun r => Cfg.rec (motive := fun _ => Prop) Q r := hrun
    rw [Tree.all_bind] at hrun'
    refine wpIn_block (wpIn_mono (ih rd rd' e ds h c n (fun cx e ds h c n => (inBlock id (.mk cx e ds h c n)).All fun r => Cfg.rec (motive := fun _ => Prop) Q r) (hrun'.mono fun r hr => by cases r; exact hr) ρ a w hs hg hds hrd hrel) ?_)
    rintro x' a' w' ⟨cx, hx, e', ds', h', c', n', ρ', q1, q2, q3, q4⟩
    cases cx with
    | normal =>
      cases x' <;> first | exact hx.elim | skip
      exact ⟨.normal, trivial, e', ds', h', c', n', ρ', q1, q2, q3, q4⟩
    | exit i =>
      cases x' <;> first | exact hx.elim | skip
      rename_i j
      have hij : i = j := hx
      subst hij
      have q1' : (cnd (Nat.beq i id) (.ret (.mk .normal e' ds' h' c' n')) (.ret (.mk (.exit i) e' ds' h' c' n')) : Tree Cfg).All fun r => Cfg.rec (motive := fun _ => Prop) Q r := q1
      rw [nat_beq_eq] at q1'
      by_cases hid : i = id
      · simp only [Exit.inBlock, hid, if_true]
        simp only [hid, decide_true, cnd_true] at q1'
        exact ⟨.normal, trivial, e', ds', h', c', n', ρ', q1', q2, q3, q4⟩
      · simp only [Exit.inBlock, hid, if_false]
        simp only [hid, decide_false, cnd_false] at q1'
        exact ⟨.exit i, rfl, e', ds', h', c', n', ρ', q1', q2, q3, q4⟩
    | ret =>
      cases x' <;> first | exact hx.elim | skip
      exact ⟨.ret, trivial, e', ds', h', c', n', ρ', q1, q2, q3, q4⟩
  | loop b ih =>
    intro rd rd' e ds h c n Q hrun ρ a w hs hg hds hrd hrel
    have hrun' : ((runCode E rd (compCode C b) e ds h c n).bind fun r => onNormal r (E.code (.loop (compCode C b)) rd)).All fun r => Cfg.rec (motive := fun _ => Prop) Q r := hrun
    rw [Tree.all_bind] at hrun'
    refine loop_of (wpIn_mono (ih rd rd' e ds h c n (fun cx e ds h c n => (onNormal (.mk cx e ds h c n) (E.code (.loop (compCode C b)) rd)).All fun r => Cfg.rec (motive := fun _ => Prop) Q r) (hrun'.mono fun r hr => by cases r; exact hr) ρ a w hs hg hds hrd hrel) ?_)
    rintro x' a' w' ⟨cx, hx, e', ds', h', c', n', ρ', q1, q2, q3, q4⟩
    cases cx with
    | normal =>
      cases x' <;> first | exact hx.elim | skip
      exact inLoopIn_mono (hloop b rd rd' e' ds' h' c' n' Q q1 ρ' a' w' q2 (hg.mono q4.sub) q3 (hrd.mono q4.sub) q4.rel) fun x'' a'' w'' hb => hb.from q4
    | exit i =>
      cases x' <;> first | exact hx.elim | skip
      exact ⟨.exit i, hx, e', ds', h', c', n', ρ', q1, q2, q3, q4⟩
    | ret =>
      cases x' <;> first | exact hx.elim | skip
      exact ⟨.ret, trivial, e', ds', h', c', n', ρ', q1, q2, q3, q4⟩
  | rangeFunc f ps asg body iha ihb => exact hrange f ps asg body

end
end Go.Cm

/-
  The C machine, part Eb: functions.
-/
namespace Go.Cm

section
variable {P : Program}

theorem slots_map {C : Cx} : ∀ {ts : List Nat} {ps : List (List Bool)}, slots C ts = some ps → ps = ts.map (pth C) ∧ ∀ t ∈ ts, t < C.nt
  | [], ps, h => by simp [slots] at h; subst h; simp
  | t :: ts, ps, h => by
    unfold slots at h
    cases h1 : slot C t with
    | none => simp [h1] at h
    | some p => cases h2 : slots C ts with
      | none => simp [h1, h2] at h
      | some qs =>
        simp [h1, h2] at h
        subst h
        obtain ⟨g1, rfl⟩ := slot_some h1
        obtain ⟨rfl, g2⟩ := slots_map h2
        exact ⟨rfl, fun s hs => (List.mem_cons.1 hs).elim (fun h => h ▸ g1) (g2 s)⟩

theorem putAll_deep {C : Cx} : ∀ (ts : List Nat) (vs : List CV) (e : Env), BT.Deep C.d e → BT.Deep C.d (putAll (ts.map (pth C)) vs e)
  | [], _, e, h => h
  | t :: ts, [], e, h => h
  | t :: ts, v :: vs, e, h => putAll_deep ts vs (e.put v (pth C t)) (BT.deep_put _ _ _ _ h (pth_length C t))

theorem putAll_look {C : Cx} : ∀ (k s : Nat) (vs : List CV) (e : Env), BT.Deep C.d e → s + k ≤ 2 ^ C.d → vs.length = k → ∀ t, t < 2 ^ C.d →
    (putAll ((List.range' s k).map (pth C)) vs e).look .undef (pth C t) = if s ≤ t ∧ t < s + k then vs.getD (t - s) .undef else e.look .undef (pth C t)
  | 0, s, vs, e, _, _, _, t, _ => by
    have : ¬ (s ≤ t ∧ t < s + 0) := by omega
    rw [if_neg this]
    rfl
  | k + 1, s, [], e, _, _, hl, _, _ => by simp at hl
  | k + 1, s, v :: vs, e, hd, hs, hl, t, ht => by
    show (putAll ((List.range' (s + 1) k).map (pth C)) vs (e.put v (pth C s))).look .undef (pth C t) = _
    rw [putAll_look k (s + 1) vs (e.put v (pth C s)) (BT.deep_put _ _ _ _ hd (pth_length C s)) (by omega) (by simpa using hl) t ht]
    rw [BT.look_put _ _ _ _ _ _ hd (pth_length C s) (pth_length C t)]
    by_cases h1 : s + 1 ≤ t ∧ t < s + 1 + k
    · rw [if_pos h1, if_pos (by omega)]
      have : t - s = (t - (s + 1)) + 1 := by omega
      rw [this]
      simp
    · rw [if_neg h1]
      by_cases h2 : t = s
      · subst h2
        rw [if_pos rfl, if_pos (by omega)]
        simp
      · rw [if_neg (fun hp => h2 (pth_inj ht (by omega) hp)), if_neg (by omega)]

/-- The slots of a function that is entered. -/
theorem enter_rel {C : Cx} (hroom : C.nt < 2 ^ C.d) {np : Nat} {ps : List (List Bool)} (hps : slots C (List.range np) = some ps) {ρ : Ren} {args : List CV} {us : Array Value} (hl : LRel ρ args us.toList) (hlen : args.length = ps.length) :
    SRel C (fun _ => True) ρ (putAll ps args (BT.all .undef C.d)) (us ++ Array.replicate (C.nt - us.size) undef) := by
  obtain ⟨rfl, hlt⟩ := slots_map hps
  have hn : args.length = np := by simpa using hlen
  have hus : us.size = np := by have := hl.1; simp at this; omega
  have hnp : np ≤ C.nt := by
    by_cases h : np = 0
    · omega
    · have := hlt (np - 1) (by simp; omega)
      omega
  refine ⟨putAll_deep _ _ _ (BT.deep_all _ _), by simp; omega, hroom, fun t ht _ => ?_⟩
  rw [List.range_eq_range', putAll_look np 0 args _ (BT.deep_all _ _) (by omega) hn t (by omega), Nat.zero_add, Nat.sub_zero]
  by_cases h : t < np
  · rw [if_pos ⟨Nat.zero_le _, h⟩]
    have h1 : t < args.length := by omega
    have h2 : t < us.toList.length := by simp; omega
    have := hl.2 t h1 h2
    have e1 : args.getD t .undef = args[t] := by simp [List.getD_eq_getElem?_getD, h1]
    have h3 : t < us.size := by omega
    have e2 : (us ++ Array.replicate (C.nt - us.size) undef).getD t undef = us[t] := by
      have : t < (us ++ Array.replicate (C.nt - us.size) undef).size := by simp; omega
      simp only [Array.getD, this, dif_pos, Array.getInternal_eq_getElem]
      rw [Array.getElem_append_left h3]
    rw [e1, e2]
    simpa using this
  · rw [if_neg (by omega), BT.look_all _ _ _ _ (pth_length C t)]
    have h3 : ¬ t < us.size := by omega
    have e2 : (us ++ Array.replicate (C.nt - us.size) undef).getD t undef = undef := by
      have : t < (us ++ Array.replicate (C.nt - us.size) undef).size := by simp; omega
      simp only [Array.getD, this, dif_pos, Array.getInternal_eq_getElem]
      rw [Array.getElem_append_right (by omega)]
      simp
    rw [e2]
    exact VRel.undef ρ

theorem compResults_cons {C : Cx} {r : ResultVar} {rs : List ResultVar} {cs : List CRes} (h : compResults C (r :: rs) = some cs) :
    ∃ c cs', cs = c :: cs' ∧ compResults C rs = some cs' ∧ ((∃ t, r = .tmp t ∧ t < C.nt ∧ c = .tmp (pth C t)) ∨ ∃ a t i, r = .cell a t ∧ a < C.nt ∧ C.ti t = some i ∧ c = .cell (pth C a) (isAggD i.under) i.size) := by
  cases r with
  | tmp t =>
    unfold compResults at h
    split at h
    · rename_i p r' hp hr
      simp only [Option.some.injEq] at h
      obtain ⟨ht, rfl⟩ := slot_some hp
      exact ⟨_, _, h.symm, hr, Or.inl ⟨t, rfl, ht, rfl⟩⟩
    · cases h
  | cell a t =>
    unfold compResults at h
    split at h
    · rename_i p i r' hp hi hr
      simp only [Option.some.injEq] at h
      obtain ⟨ht, rfl⟩ := slot_some hp
      exact ⟨_, _, h.symm, hr, Or.inr ⟨a, t, i, rfl, ht, hi, rfl⟩⟩
    · cases h

/-- A variable read. -/
theorem run_loadVar {C : Cx} (hC : CxOk P C) {KR : KRelT} {ρ : Ren} {h : Heap} {K : Nat → Option LObj} {n : Nat} {w : World} (hrel : Rel KR ρ h.get K n w) {t : TypeId} {i : TI} (hi : C.ti t = some i) {b o : Nat} {u v : CV} {x : Value} (hx : VRel ρ u x) (hu : u = .ptr b o)
    (hv : asCells (h.get b) (fun vs _ _ => partOf (isAggD i.under) o i.size vs) none = some v) : ∃ X, (do loadVar t (← asAddr x)).run P w = .ok X w ∧ VRel ρ v X := by
  subst hu
  obtain ⟨r, m, rfl, hb⟩ := hx.ptr_inv
  obtain ⟨vs, el, fz, e2, f2⟩ := asCells_some hv
  obtain ⟨r', m', c, fz', h1, h2, h3, h4, h5, _⟩ := hrel.cells e2
  rw [hb] at h1
  simp only [Option.some.injEq, Prod.mk.injEq] at h1
  obtain ⟨rfl, rfl⟩ := h1
  have hasA : (asAddr (.pointer (some ⟨r, o, none⟩))).run P w = .ok ⟨r, o, none⟩ w := rfl
  cases ha : isAggD i.under with
  | true =>
    rw [ha] at f2
    obtain ⟨g1, g2⟩ := cnd_some.1 (show cnd (lenGe vs (o + i.size)) (some (.agg (takeL (dropL vs o) i.size))) none = some v from f2)
    simp only [Option.some.injEq] at g2
    subst g2
    rw [lenGe_eq, decide_eq_true_eq] at g1
    refine ⟨.agg ((c.toList.drop o).take i.size).toArray, ?_, VRel.agg_iff.2 ⟨_, rfl, ?_⟩⟩
    · simp only [Sem.run_bind, hasA, Result.andThen_ok, loadVar, run_isAgg (hC.under hi), ha, if_true, hC.run_size hi, run_cells h2 (by omega : o + i.size ≤ c.size)]
      rfl
    · rw [takeL_eq, dropL_eq]
      have := (h5.drop o).take i.size
      rw [List.drop_take, List.take_take, Nat.min_eq_left (by omega)] at this
      simpa using this
  | false =>
    rw [ha] at f2
    have g1 : nthO vs o = some v := f2
    rw [nthO_eq] at g1
    obtain ⟨X, hX, hv⟩ := h5.get? g1
    have hX' : c[o]? = some X := by have := take_get hX; simpa using this
    refine ⟨X, ?_, hv⟩
    simp only [Sem.run_bind, hasA, Result.andThen_ok, loadVar, run_isAgg (hC.under hi), ha, Bool.false_eq_true, if_false]
    rw [run_load, cell_at h2, hX']

def resSem (tmps : Array Value) : ResultVar → Sem Value
  | .tmp t => pure (tmps.getD t undef)
  | .cell a t => do loadVar t (← asAddr (tmps.getD a undef))

theorem results_list {C : Cx} (hC : CxOk P C) {KR : KRelT} {ρ : Ren} {h : Heap} {K : Nat → Option LObj} {n : Nat} {w : World} (hrel : Rel KR ρ h.get K n w) {e : Env} {tmps : Array Value} (hs : SRel C (fun _ => True) ρ e tmps) :
    ∀ (rs : List ResultVar) (cs : List CRes) (vs : List CV), compResults C rs = some cs → resAll e h cs = some vs → ∃ us, (rs.mapM (resSem tmps)).run P w = .ok us w ∧ LRel ρ vs us
  | [], cs, vs, hc, hv => by
    simp [compResults] at hc
    subst hc
    have : some [] = some vs := hv
    simp only [Option.some.injEq] at this
    subst this
    exact ⟨[], rfl, .nil ρ⟩
  | r :: rs, cs, vs, hc, hv => by
    obtain ⟨c, cs', rfl, hcs, hr⟩ := compResults_cons hc
    obtain ⟨v, hv1, hv2⟩ := rec_some.1 (show Option.rec (motive := fun _ => Option (List CV)) none (fun v => Option.rec (motive := fun _ => Option (List CV)) none (fun vs => some (v :: vs)) (resAll e h cs')) (resOne e h c) = some vs from hv)
    obtain ⟨vs', hv3, hv4⟩ := rec_some.1 hv2
    simp only [Option.some.injEq] at hv4
    subst hv4
    obtain ⟨us, hu1, hu2⟩ := results_list hC hrel hs rs cs' vs' hcs hv3
    obtain ⟨X, hX1, hX2⟩ : ∃ X, (resSem tmps r).run P w = .ok X w ∧ VRel ρ v X := by
      rcases hr with ⟨t, rfl, ht, rfl⟩ | ⟨a, t, i, rfl, ha, hi, rfl⟩
      · have h1 : some (e.look .undef (pth C t)) = some v := hv1
        simp only [Option.some.injEq] at h1
        subst h1
        exact ⟨_, rfl, hs.val t ht trivial⟩
      · obtain ⟨b, o, h1, h2⟩ := asPtr_some.1 (show asPtr (e.look .undef (pth C a)) (fun b o => asCells (h.get b) (fun vs _ _ => partOf (isAggD i.under) o i.size vs) none) none = some v from hv1)
        exact run_loadVar hC hrel hi (hs.val a ha trivial) h1 h2
    refine ⟨X :: us, ?_, .cons hX2 hu2⟩
    rw [List.mapM_cons]
    simp only [Sem.run_bind, hX1, Result.andThen_ok, hu1, Sem.run_pure]

theorem results_rel {C : Cx} (hC : CxOk P C) {KR : KRelT} {ρ : Ren} {h : Heap} {K : Nat → Option LObj} {n : Nat} {w : World} (hrel : Rel KR ρ h.get K n w) {e : Env} {tmps : Array Value} (hs : SRel C (fun _ => True) ρ e tmps) {fn : Func} {cs : List CRes} {vs : List CV}
    (hc : compResults C fn.results.toList = some cs) (hv : resAll e h cs = some vs) : ∃ u, (results fn tmps).run P w = .ok u w ∧ VRel ρ (tupleOf vs) u := by
  obtain ⟨us, h1, h2⟩ := results_list hC hrel hs _ _ _ hc hv
  have hdef : results fn tmps = (do
      let vs ← fn.results.mapM (resSem tmps)
      pure (if h : vs.size = 1 then vs[0] else .tuple vs)) := by
    unfold results
    congr 1
  rw [hdef, Array.mapM_eq_mapM_toList]
  simp only [map_eq_pure_bind, Sem.run_bind, h1, Result.andThen_ok]
  refine ⟨_, rfl, ?_⟩
  match vs, us, h2 with
  | [v], [u], h2 => exact (LRel.cons_iff.1 h2).1
  | [], [], h2 => exact VRel.tuple_iff.2 ⟨_, rfl, h2⟩
  | a :: b :: r, [], h2 => have := h2.1; simp at this
  | a :: b :: r, [u], h2 => have := h2.1; simp at this
  | a :: b :: r, u :: v :: s, h2 => exact VRel.tuple_iff.2 ⟨_, rfl, h2⟩
  | [v], [], h2 => have := h2.1; simp at this
  | [v], _ :: _ :: _, h2 => have := h2.1; simp at this
  | [], _ :: _, h2 => have := h2.1; simp at this

end
end Go.Cm

/-
  The C machine, part Ec: calls of functions.
-/
namespace Go.Cm

section
variable {P : Program}

/-- The calls that were put off, made at the end. -/
def DefersSound (P : Program) (KR : KRelT) (ng : Nat) (enter : CallF) : Prop :=
  ∀ (fn : Func) (tmps : Array Value) (R : Ending → World → Prop) (ds : List CDef) (h : Heap) (c : Ctl) (n : Nat) (Q : Heap → Ctl → Nat → Prop), ((runDefers enter ds h c n).All fun m => Mem.rec (motive := fun _ => Prop) Q m) →
    ∀ (ρ : Ren) (w : World) (ds' : List Deferred), DsRel P ρ ds ds' → GRel ng ρ → Rel KR ρ h.get c.get n w →
      (∀ h' c' n' ρ' w', Q h' c' n' → Step KR ρ h.get c.get n w ρ' h'.get c'.get n' w' → LeavesIn Fence.wide 0 P fn tmps R [] .returning w') → LeavesInM Fence.wide 0 P fn tmps R ds' .returning w

structure FnOk (P : Program) (ng : Nat) (f : Nat) (F : CFunc) (C : Cx) (fn : Func) (code : Code) (rs : List CRes) (ps : List (List Bool)) : Prop where
  get : P.funcs[f]? = some fn
  body : fn.body = some code
  ok : CxOk P C
  ng : C.ng = ng
  nt : C.nt = fn.ntmps
  room : C.nt < 2 ^ C.d
  params : slots C (List.range (fn.params.size + fn.nfree)) = some ps
  res : compResults C fn.results.toList = some rs
  eq : F = { depth := C.d, params := ps, body := compCode C code, results := rs }

theorem callFn_sound {KR : KRelT} {ng f : Nat} {F : CFunc} {C : Cx} {fn : Func} {code : Code} {rs : List CRes} {ps : List (List Bool)} (hF : FnOk P ng f F C fn code rs ps) {E : Evals}
    (hcode : RunsOk P C KR none none (runCode E none (compCode C code)) (code.wpIn Fence.wide 0 P)) (hdef : DefersSound P KR ng E.enter)
    {args : List CV} {h : Heap} {c : Ctl} {n : Nat} {Q : CV → Heap → Ctl → Nat → Prop} (hrun : (callFn E F args h c n).All fun r => CR.rec (motive := fun _ => Prop) Q r)
    {ρ : Ren} {us : Array Value} {w : World} (hl : LRel ρ args us.toList) (hg : GRel ng ρ) (hrel : Rel KR ρ h.get c.get n w) :
    CallsIn Fence.wide 0 P f us w fun e w' => ∃ u, e = .returned u ∧ ∃ v h' c' n' ρ', Q v h' c' n' ∧ VRel ρ' v u ∧ Step KR ρ h.get c.get n w ρ' h'.get c'.get n' w' := by
  have hrun' : (cnd (Nat.beq (lenL args) (lenL F.params)) ((runCode E none F.body (putAll F.params args (BT.all .undef F.depth)) [] h c n).bind fun r => leave E.enter F.results r) .fail).All fun r => CR.rec (motive := fun _ => Prop) Q r := hrun
  cases hb : Nat.beq (lenL args) (lenL F.params) with
  | false => rw [hb] at hrun'; exact hrun'.elim
  | true =>
    rw [hb, cnd_true, Tree.all_bind] at hrun'
    rw [nat_beq_eq, decide_eq_true_eq, lenL_eq, lenL_eq] at hb
    obtain ⟨h1, h2, h3, h4, h5, h6, h7, h8, rfl⟩ := hF
    subst h4
    have hs := enter_rel h6 h7 hl hb
    have hwp := hcode _ [] h c n (fun cx e ds h c n => (leave E.enter rs (.mk cx e ds h c n)).All fun r => CR.rec (motive := fun _ => Prop) Q r) (hrun'.mono fun r hr => by cases r; exact hr) ρ { tmps := us ++ Array.replicate (fn.ntmps - us.size) undef, defers := [] } w (by rw [← h5]; exact hs) hg trivial trivial hrel
    refine callsIn_of_wp_marks h1 h2 trivial (wpIn_mono hwp ?_)
    rintro x a' w' ⟨cx, hx, e', ds', h', c', n', ρ', q1, q2, q3, q4⟩
    have fin : ((leave.done E.enter rs e' ds' h' c' n').All fun r => CR.rec (motive := fun _ => Prop) Q r) → LeavesInM Fence.wide 0 P fn a'.tmps (fun e w' => ∃ u, e = .returned u ∧ ∃ v h' c' n' ρ', Q v h' c' n' ∧ VRel ρ' v u ∧ Step KR ρ h.get c.get n w ρ' h'.get c'.get n' w') a'.defers .returning w' := by
      intro hd
      have hd' : ((runDefers E.enter ds' h' c' n').bind fun m => Mem.rec (motive := fun _ => Tree CR) (fun h c n =>
        Option.rec (motive := fun _ => Tree CR) .fail (fun vs => .ret (.mk (tupleOf vs) h c n)) (resAll e' h rs)) m).All fun r => CR.rec (motive := fun _ => Prop) Q r := hd
      rw [Tree.all_bind] at hd'
      refine hdef fn a'.tmps _ ds' h' c' n' (fun h c n => (Option.rec (motive := fun _ => Tree CR) .fail (fun vs => .ret (.mk (tupleOf vs) h c n)) (resAll e' h rs) : Tree CR).All fun r => CR.rec (motive := fun _ => Prop) Q r) (hd'.mono fun m hm => by cases m; exact hm) ρ' w' a'.defers q3 (hg.mono q4.sub) q4.rel ?_
      intro h'' c'' n'' ρ'' w'' hq hstep
      cases hra : resAll e' h'' rs with
      | none => rw [hra] at hq; exact hq.elim
      | some vs =>
        rw [hra] at hq
        obtain ⟨u, hu1, hu2⟩ := results_rel h3 hstep.rel (q2.mono hstep.sub) h8 hra
        exact ⟨u, hu1, u, rfl, tupleOf vs, h'', c'', n'', ρ'', hq, hu2, q4.trans hstep⟩
    cases cx with
    | normal => cases x <;> first | exact hx.elim | exact fin q1
    | ret => cases x <;> first | exact hx.elim | exact fin q1
    | exit i => exact (show False from q1).elim

/-- What the table holds. -/
def TabFn (P : Program) (ng : Nat) (T : FTab) : Prop := ∀ f F, T f = some (.fn F) → ∃ C fn code rs ps, FnOk P ng f F C fn code rs ps

def NoCount (P : Program) : Prop := (P.funcs.all fun fn => fn.name != "runtime.NumGoroutine") = true

theorem run_callFunc {f : Nat} {fn : Func} {code : Code} (hn : NoCount P) (hf : P.funcs[f]? = some fn) (hb : fn.body = some code) (args : Array Value) (w : World) : (callFunc f args).run P w = .ok (.enter f args) w := by
  have hne : (fn.name == "runtime.NumGoroutine") = false := by
    have := Array.all_eq_true_iff_forall_mem.1 hn fn (Array.mem_of_getElem? hf)
    simpa using this
  have hne' : ¬ fn.name = "runtime.NumGoroutine" := by simpa using hne
  simp [callFunc, program, hf, hb, Sem.run, bind, Sem.bind, hne']

theorem run_invoke_func {q : Nat} {vs : Array Value} {args : Array Value} {w : World} {nx : Next} {w' : World} (h : (callFunc q (args ++ vs)).run P w = .ok nx w') : (invoke (.fn (.func q) vs) args).run P w = .ok nx w' := h

/-- A function's value called. -/
theorem callV_func {KR : KRelT} {ng : Nat} {T : FTab} (hT : TabFn P ng T) (hn : NoCount P) {E : Evals} (hcode : ∀ (C : Cx), CxOk P C → C.ng = ng → ∀ code, RunsOk P C KR none none (runCode E none (compCode C code)) (code.wpIn Fence.wide 0 P)) (hdef : DefersSound P KR ng E.enter)
    {q : Nat} {F : CFunc} (hq : T q = some (.fn F)) {xs ys args : List CV} {h : Heap} {c : Ctl} {n : Nat} {Q : CV → Heap → Ctl → Nat → Prop} (hrun : (callFn E F (appL xs (appL args ys)) h c n).All fun r => CR.rec (motive := fun _ => Prop) Q r)
    {ρ : Ren} {w : World} {fv : Value} {us : List Value} (hf : VRel ρ (.func q xs ys) fv) (hl : LRel ρ args us) (hg : GRel ng ρ) (hrel : Rel KR ρ h.get c.get n w) :
    InvokeOk P fv us.toArray w fun u w' => ∃ v h' c' n' ρ', Q v h' c' n' ∧ VRel ρ' v u ∧ Step KR ρ h.get c.get n w ρ' h'.get c'.get n' w' := by
  obtain ⟨xs', ys', rfl, h1, h2⟩ := VRel.func_iff.1 hf
  obtain ⟨C, fn, code, rs, ps, hF⟩ := hT q F hq
  have hl' : LRel ρ (appL xs (appL args ys)) ((xs' ++ us.toArray) ++ ys').toList := by
    rw [appL_eq, appL_eq]
    have := h1.append (hl.append h2)
    simpa [List.append_assoc] using this
  have hc := callFn_sound hF (hcode C hF.ok hF.ng code) hdef hrun hl' hg hrel
  exact ⟨{ target := .fn (.func q) ys', args := xs' ++ us.toArray }, .enter q ((xs' ++ us.toArray) ++ ys'), w, fun _ => rfl, run_invoke_func (run_callFunc hn hF.get hF.body _ w), hc⟩

/-! ### Without calls put off, and loops over functions -/

def KR0 : KRelT := fun _ _ _ => False

noncomputable def Evals.next0 (T : FTab) (E : Evals) : Evals :=
  { code := fun c rd e ds h k n => runCode E rd c e ds h k n, call := fun f args h c n => callV T E f args h c n, enter := fun _ _ _ _ _ => .fail }
noncomputable def evals0 (T : FTab) (n : Nat) : Evals := Nat.rec (motive := fun _ => Evals) Evals.none (fun _ ih => Evals.next0 T ih) n

theorem defers0 {ng : Nat} {enter : CallF} (he : ∀ f as h c n, enter f as h c n = .fail) : DefersSound P KR0 ng enter := by
  intro fn tmps R ds h c n Q hrun ρ w ds' hds hg hrel hQ
  cases ds with
  | nil =>
    cases ds' with
    | nil => exact hQ h c n ρ w hrun (Step.refl hrel)
    | cons _ _ => exact hds.elim
  | cons d ds =>
    cases d with
    | call f as =>
      have hrun' : ((enter f as h c n).bind fun r => CR.rec (motive := fun _ => Tree Mem) (fun _ h c n => runDefers enter ds h c n) r).All fun m => Mem.rec (motive := fun _ => Prop) Q m := hrun
      rw [he] at hrun'
      exact hrun'.elim
    | collected r =>
      have hrun' : (asDeferred (c.get r) (runDefers enter ds h (c.set r (some (.deferred none))) n) .fail).All fun m => Mem.rec (motive := fun _ => Prop) Q m := hrun
      unfold asDeferred at hrun'
      split at hrun'
      · rename_i hc
        obtain ⟨_, _, _, _, _, hk⟩ := hrel.ctl r _ hc
        exact hk.elim
      · exact hrun'.elim

theorem range0 {C : Cx} {E : Evals} (he : ∀ f as h c n, E.enter f as h c n = .fail) (f : Operand) (ps : Array Tmp) (asg body : Code) (rd rd' : Option Nat) :
    RunsOk P C KR0 rd rd' (runCode E rd (compCode C (.rangeFunc f ps asg body))) ((Code.rangeFunc f ps asg body).wpIn (fenceOf rd') 0 P) := by
  intro e ds h c n Q hrun
  simp only [compCode] at hrun
  split at hrun
  · rename_i f' ps' _ _
    have hrun' : (runRange E.enter rd f' ps' (compCode C asg) (compCode C body) e ds h c n).All fun r => Cfg.rec (motive := fun _ => Prop) Q r := hrun
    have hst : ∀ d ds' c' n', startLoop E.enter (ev e f') ps' (compCode C asg) (compCode C body) d e ds' h c' n' = .fail := by
      intro d ds' c' n'
      unfold startLoop
      rw [he]
      rfl
    cases rd with
    | none =>
      have : (startLoop E.enter (ev e f') ps' (compCode C asg) (compCode C body) n e (.collected n :: ds) h (c.set n (some (.deferred (some [])))) (n + 1)).All fun r => Cfg.rec (motive := fun _ => Prop) Q r := hrun'
      rw [hst] at this
      exact this.elim
    | some l =>
      have : (asLoop (c.get l) (fun _ _ _ _ _ _ d => startLoop E.enter (ev e f') ps' (compCode C asg) (compCode C body) d e ds h c n) .fail).All fun r => Cfg.rec (motive := fun _ => Prop) Q r := hrun'
      unfold asLoop at this
      split at this
      · dsimp only at this
        rw [hst] at this; exact this.elim
      · exact this.elim
  · exact (show False from hrun).elim

theorem evals0_sound (hd8 : 8 ≤ P.depth) (hm : P.follows .mixedOrders = true) {ng : Nat} {T : FTab} (hT : TabFn P ng T) (hTf : ∀ f en, T f = some en → ∃ F, en = .fn F) (hn : NoCount P) : ∀ N,
    CallSound P KR0 ng (evals0 T N).call ∧ ∀ (C : Cx), CxOk P C → C.ng = ng → ∀ (c : Code) (rd rd' : Option Nat), RunsOk P C KR0 rd rd' ((evals0 T N).code (.loop (compCode C c)) rd) (inLoopIn (fenceOf rd') 0 P c) := by
  intro N
  induction N with
  | zero => exact ⟨fun f as h c n Q hrun => (show False from hrun).elim, fun C _ _ c rd rd' e ds h k n Q hrun => (show False from hrun).elim⟩
  | succ N ih =>
    have hKR : KMono KR0 := fun _ _ _ _ _ h => h
    have henter : ∀ f as h c n, (evals0 T N).enter f as h c n = .fail := by
      intro f as h c n
      cases N <;> rfl
    have hruns : ∀ (C : Cx), CxOk P C → C.ng = ng → ∀ (code : Code) (rd rd' : Option Nat), RunsOk P C KR0 rd rd' (runCode (evals0 T N) rd (compCode C code)) (code.wpIn (fenceOf rd') 0 P) := by
      intro C hC hng
      exact runCode_sound hKR hd8 hm hC (by rw [hng]; exact ih.1) (fun c rd rd' => ih.2 C hC hng c rd rd') (range0 henter)
    refine ⟨?_, ?_⟩
    · intro f as h c n Q hrun ρ w fv us hf hl hg hrel
      have hrun' : (callV T (evals0 T N) f as h c n).All fun r => CR.rec (motive := fun _ => Prop) Q r := hrun
      cases f <;> try exact (show False from hrun').elim
      case func q xs ys =>
        have hrun2 : (callEntry (evals0 T N) (appL xs (appL as ys)) h c n (T q)).All fun r => CR.rec (motive := fun _ => Prop) Q r := hrun'
        cases hq : T q with
        | none => rw [hq] at hrun2; exact hrun2.elim
        | some en =>
          rw [hq] at hrun2
          obtain ⟨F, rfl⟩ := hTf q en hq
          exact callV_func hT hn (fun C hC hng code => hruns C hC hng code none none) (defers0 henter) hq hrun2 hf hl hg hrel
      case yield l =>
        have hrun2 : (callRound (evals0 T N) l as h c n).All fun r => CR.rec (motive := fun _ => Prop) Q r := hrun'
        unfold callRound asLoop at hrun2
        split at hrun2
        · rename_i hc
          obtain ⟨_, _, _, _, _, hk⟩ := hrel.ctl l _ hc
          exact hk.elim
        · exact hrun2.elim
    · intro C hC hng c rd rd' e ds h k n Q hrun ρ a w hs hg hds hrd hrel
      have hrun' : ((runCode (evals0 T N) rd (compCode C c) e ds h k n).bind fun r => onNormal r ((evals0 T N).code (.loop (compCode C c)) rd)).All fun r => Cfg.rec (motive := fun _ => Prop) Q r := hrun
      rw [Tree.all_bind] at hrun'
      refine inLoopIn_of (wpIn_mono (hruns C hC hng c rd rd' e ds h k n (fun cx e ds h k n => (onNormal (.mk cx e ds h k n) ((evals0 T N).code (.loop (compCode C c)) rd)).All fun r => Cfg.rec (motive := fun _ => Prop) Q r) (hrun'.mono fun r hr => by cases r; exact hr) ρ a w hs hg hds hrd hrel) ?_)
      rintro x' a' w' ⟨cx, hx, e', ds', h', c', n', ρ', q1, q2, q3, q4⟩
      cases cx with
      | normal =>
        cases x' <;> first | exact hx.elim | skip
        exact inLoopIn_mono (ih.2 C hC hng c rd rd' e' ds' h' c' n' Q q1 ρ' a' w' q2 (hg.mono q4.sub) q3 (hrd.mono q4.sub) q4.rel) fun x'' a'' w'' hb => hb.from q4
      | exit i =>
        cases x' <;> first | exact hx.elim | skip
        exact ⟨.exit i, hx, e', ds', h', c', n', ρ', q1, q2, q3, q4⟩
      | ret =>
        cases x' <;> first | exact hx.elim | skip
        exact ⟨.ret, trivial, e', ds', h', c', n', ρ', q1, q2, q3, q4⟩

end
end Go.Cm

/-
  The C machine, part Ed: a program's table; closed calls.
-/
namespace Go.Cm
open Go.RowKit

section
variable {P : Program}

theorem tabulate_get {α : Type} (f : Nat → Option α) : ∀ (n k : Nat), (tabulate f n).get k = if k < n then f k else none
  | 0, k => rfl
  | n + 1, k => by
    show ((tabulate f n).set n (f n)).get k = _
    rw [Trie.get_set, tabulate_get f n k]
    by_cases h : k = n
    · subst h; simp
    · by_cases h2 : k < n
      · rw [if_neg h, if_pos h2, if_pos (by omega)]
      · rw [if_neg h, if_neg h2, if_neg (by omega)]

theorem cxOf_ok (P : Program) (d nt : Nat) : CxOk P { cxOf P with d := d, nt := nt } := by
  refine ⟨fun t i h => ?_, fun t h => ?_, rfl⟩
  · have h' : (tabulate (tiOf P) P.types.size).get t = some i := h
    rw [tabulate_get] at h'
    split at h'
    · unfold tiOf at h'
      split at h'
      · rename_i inf d h1 h2
        simp only [Option.some.injEq] at h'
        subst h'
        exact ⟨inf, h1, h2, rfl, rfl, rfl, rfl⟩
      · cases h'
    · cases h'
  · have h' : (((tabulate (fun t => some (P.stoodInHeld t)) P.types.size).get t)).getD true = false := h
    rw [tabulate_get] at h'
    split at h'
    · exact h'
    · cases h'

/-- The functions that have a text. -/
noncomputable def tab0 (P : Program) : FTab := fun f => match tabOf P f with
  | some (.fn F) => some (.fn F)
  | _ => none

theorem tabOf_fn {f : Nat} {F : CFunc} (h : tabOf P f = some (.fn F)) : ∃ C fn code rs ps, FnOk P P.globals.size f F C fn code rs ps := by
  have h' : (tabulate (fun f => (P.funcs[f]?).bind (compFunc (cxOf P))) P.funcs.size).get f = some (.fn F) := h
  rw [tabulate_get] at h'
  split at h'
  · obtain ⟨fn, hfn, hc⟩ := Option.bind_eq_some_iff.1 h'
    unfold compFunc at hc
    split at hc
    · rename_i code hbody
      unfold compBody at hc
      split at hc
      · rename_i ps rs hlt hps hrs
        simp only [Option.some.injEq, CEntry.fn.injEq] at hc
        refine ⟨{ cxOf P with d := depthFor 30 (fn.ntmps + 1), nt := fn.ntmps }, fn, code, rs, ps, ⟨hfn, hbody, cxOf_ok P _ _, rfl, rfl, ?_, hps, hrs, hc.symm⟩⟩
        rw [nat_blt_eq, decide_eq_true_eq] at hlt
        exact hlt
      · cases hc
    · simp only [Option.map_eq_some_iff] at hc
      obtain ⟨x, _, hx⟩ := hc
      cases hx
  · cases h'

theorem tab0_fn : TabFn P P.globals.size (tab0 P) := by
  intro f F h
  unfold tab0 at h
  split at h
  · rename_i F' hF'
    simp only [Option.some.injEq, CEntry.fn.injEq] at h
    subst h
    exact tabOf_fn hF'
  · cases h
theorem tab0_only (f : Nat) (en : CEntry) (h : tab0 P f = some en) : ∃ F, en = .fn F := by
  unfold tab0 at h
  split at h
  · simp only [Option.some.injEq] at h; exact ⟨_, h.symm⟩
  · cases h

/-! Closed calls. -/

noncomputable def allB {α : Type} (t : Tree α) (f : α → Bool) : Bool :=
  Tree.rec (motive := fun _ => Bool) false (fun a => f a) (fun n _ ih => Nat.rec (motive := fun _ => Bool) true (fun i r => cnd (ih i) r false) n) t

theorem allB_all {α : Type} {t : Tree α} {f : α → Bool} (h : allB t f = true) : t.All fun a => f a = true := by
  induction t with
  | fail => cases h
  | ret a => exact h
  | choose n k ih =>
    have h' : (Nat.rec (motive := fun _ => Bool) true (fun i r => cnd (allB (k i) f) r false) n) = true := h
    intro i hi
    refine ih i ?_
    clear ih h
    induction n with
    | zero => omega
    | succ n ihn =>
      have h2 : cnd (allB (k n) f) (Nat.rec (motive := fun _ => Bool) true (fun i r => cnd (allB (k i) f) r false) n) false = true := h'
      cases hk : allB (k n) f with
      | false => rw [hk] at h2; cases h2
      | true =>
        rw [hk, cnd_true] at h2
        by_cases hin : i = n
        · rw [hin, hk]
        · exact ihn h2 (by omega)

noncomputable def isTrue (r : CR) : Bool := CR.rec (motive := fun _ => Bool) (fun v _ _ _ => asBool v true false false) r

/-- The blocks of the package-level variables, and no more. -/
def ren0 (ng : Nat) : Ren := fun g => if g < ng then some (g, 0) else none
theorem gRel0 (ng : Nat) : GRel ng (ren0 ng) := fun g hg => ⟨0, by simp [ren0, hg]⟩
theorem rel0 (KR : KRelT) (ng : Nat) (w : World) {n : Nat} (hn : ng ≤ n) : Rel KR (ren0 ng) (Trie.leaf : Heap).get (Trie.leaf : Ctl).get n w := by
  refine ⟨fun b hb => ?_, (fun b o h => by cases h), (fun b l h => by cases h), fun b c r m m' hb => ?_, (fun b o h => by cases h)⟩
  · have : ¬ b < ng := by omega
    simp [ren0, this]
  · rcases hb with hb | hb <;> exact (hb rfl).elim

theorem step_below {KR : KRelT} {ρ ρ' : Ren} {H' : Nat → Option MObj} {K' : Nat → Option LObj} {n n' : Nat} {w w' : World} (h : Step KR ρ (Trie.leaf : Heap).get (Trie.leaf : Ctl).get n w ρ' H' K' n' w') : Below w.heap.size w w' := by
  refine ⟨h.os, h.tape, h.output, h.size, fun k hk => ?_⟩
  rw [Array.getElem?_eq_getElem hk]
  refine h.keep k _ (Array.getElem?_eq_getElem hk) fun c m' hc => ?_
  rcases hc with hc | hc <;> exact (hc rfl).elim

/-- A call of no arguments that is reckoned to be true. -/
theorem closed_true (hd8 : 8 ≤ P.depth) (hm : P.follows .mixedOrders = true) (hn : NoCount P) {N f n : Nat} (hng : P.globals.size ≤ n) (h : allB ((evals0 (tab0 P) N).call (.func f [] []) [] .leaf .leaf n) isTrue = true) (w : World) :
    Calls P f #[] w fun e w' => e = .returned (.bool true) ∧ Below w.heap.size w w' := by
  have hs := (evals0_sound hd8 hm tab0_fn tab0_only hn N).1 (.func f [] []) [] .leaf .leaf n (fun v _ _ _ => asBool v true false false = true) ((allB_all h).mono fun r hr => by cases r; exact hr) (ren0 P.globals.size) w (.func (.func f) #[] #[]) []
    (VRel.func_iff.2 ⟨#[], #[], rfl, .nil _, .nil _⟩) (.nil _) (gRel0 _) (rel0 KR0 _ w hng)
  obtain ⟨d, nx, w2, h1, h2, h3⟩ := hs
  have hd : d = { target := .fn (.func f) #[], args := #[] } := by
    have := h1 w
    have h4 : (Deferred.ofValue (.func (.func f) #[] #[]) ([] : List Value).toArray).run P w = .ok { target := .fn (.func f) #[], args := #[] } w := rfl
    rw [h4] at this
    injection this with e1 _
    exact e1.symm
  subst hd
  cases hq : tab0 P f with
  | none =>
    exfalso
    cases N with
    | zero => cases h
    | succ N =>
      have h' : allB (callEntry (evals0 (tab0 P) N) (appL [] (appL [] [])) .leaf .leaf n (tab0 P f)) isTrue = true := h
      rw [hq] at h'
      cases h'
  | some en =>
    obtain ⟨F, rfl⟩ := tab0_only f en hq
    obtain ⟨C, fn, code, rs, ps, hF⟩ := tab0_fn f F hq
    have h4 : (invoke (.fn (.func f) #[]) #[]).run P w = .ok (.enter f #[]) w := run_invoke_func (run_callFunc hn hF.get hF.body _ w)
    rw [h4] at h2
    injection h2 with e1 e2
    subst e1 e2
    refine callsIn_wide.1 (CallsIn.mono h3 ?_)
    rintro e w' ⟨u, rfl, v, h', c', n', ρ', q1, q2, q3⟩
    refine ⟨?_, step_below q3⟩
    cases v <;> try (exact (show False from by cases q1).elim)
    rename_i b
    cases b
    · cases q1
    · rw [q2.bool_inv]

end
end Go.Cm
