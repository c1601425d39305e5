import Derived.Laws.Append
import Derived.Lib.ConvBytes
import Derived.Lib.UnsafeStr
import Derived.OrdersIn
import Derived.Test.YtdagpgccjamkmaaC1
/-
  The C machine, part Q: maps written.
-/
namespace Go.Cm

section
variable {P : Program} {C : Cx}

theorem run_setObj {w : World} {r : Nat} {o x : Obj} (h : w.heap[r]? = some x) (_hx : ∀ c t f, x ≠ .cells c t f) : (setObj r o).run P w = .ok () { w with heap := w.heap.setIfInBounds r o } := by
  simp only [setObj, Sem.run, h]

theorem set_get {w : World} {r : Nat} {o x : Obj} (h : w.heap[r]? = some x) (k : Nat) : ({ w with heap := w.heap.setIfInBounds r o } : World).heap[k]? = if k = r then some o else w.heap[k]? := by
  have := get_lt h
  by_cases e : k = r
  · subst e; simp [this]
  · simp [e, Ne.symm e]

theorem orel_map {ρ : Ren} {es : List (CV × CV × Nat)} {es' : Array MapEntry} (m k : Nat) (h : EsRel ρ es es'.toList) : ORel ρ m (.map es k) (.map es' k) := by
  refine ⟨rfl, by simpa using h.len, fun i a b => ?_⟩
  have := h.at i a (by simpa using b)
  simpa using this

theorem EsRel.modify {ρ : Ren} {f : CV × CV × Nat → CV × CV × Nat} {g : MapEntry → MapEntry} (hfg : ∀ e e', ERel ρ e e' → ERel ρ (f e) (g e')) : ∀ {es : List (CV × CV × Nat)} {es' : List MapEntry}, EsRel ρ es es' → ∀ i, EsRel ρ (es.modify i f) (es'.modify i g)
  | [], [], _, i => by cases i <;> trivial
  | _ :: _, _ :: _, h, 0 => ⟨hfg _ _ h.1, h.2⟩
  | _ :: _, _ :: _, h, i + 1 => ⟨h.1, h.2.modify hfg i⟩
  | [], _ :: _, h, _ => h.elim
  | _ :: _, [], h, _ => h.elim
theorem EsRel.snoc {ρ : Ren} {e : CV × CV × Nat} {e' : MapEntry} (he : ERel ρ e e') : ∀ {es : List (CV × CV × Nat)} {es' : List MapEntry}, EsRel ρ es es' → EsRel ρ (es ++ [e]) (es' ++ [e'])
  | [], [], _ => ⟨he, trivial⟩
  | _ :: _, _ :: _, h => ⟨h.1, h.2.snoc he⟩
  | [], _ :: _, h => h.elim
  | _ :: _, [], h => h.elim
theorem EsRel.erase {ρ : Ren} : ∀ {es : List (CV × CV × Nat)} {es' : List MapEntry}, EsRel ρ es es' → ∀ i, EsRel ρ (es.eraseIdx i) (es'.eraseIdx i)
  | [], [], _, i => by cases i <;> trivial
  | _ :: _, _ :: _, h, 0 => h.2
  | _ :: _, _ :: _, h, i + 1 => ⟨h.1, h.2.erase i⟩
  | [], _ :: _, h, _ => h.elim
  | _ :: _, [], h, _ => h.elim

/-- A map in memory that is given other entries. -/
theorem map_write {KR : KRelT} {ρ : Ren} {h : Heap} {K : Nat → Option LObj} {n : Nat} {w : World} (hrel : Rel KR ρ h.get K n w) {b r m : Nat} {es es2 : List (CV × CV × Nat)} {c c2 : Nat} {es' es2' : Array MapEntry}
    (hb : h.get b = some (.map es c)) (hr : ρ b = some (r, m)) (hx : w.heap[r]? = some (.map es' c)) (he : EsRel ρ es2 es2'.toList) :
    ∃ w', (setObj r (.map es2' c2)).run P w = .ok () w' ∧ Step KR ρ h.get K n w ρ (h.set b (some (.map es2 c2))).get K n w' := by
  refine ⟨_, run_setObj hx (by intros; simp), ?_⟩
  rw [get_set_fun]
  exact Step.write hrel hb hr hx (orel_map m c2 he) _ (set_get hx) rfl rfl rfl

theorem run_keyThatStays {old new : Value} {w : World} (h : Instr.sameBits 10000 old new = true) : (Instr.keyThatStays old new).run P w = .ok new w := by
  unfold Instr.keyThatStays
  rw [if_pos h]
  rfl

theorem mapUpdate_sound (hC : CxOk P C) {t : TypeId} {m k x : Operand} {m' k' x' : COpd} {K : KS} {z : CV} (hz : mapZero C t = some (K, z)) (hm : opd C m = some m') (hk : opd C k = some k') (hx : opd C x = some x') {op : Op} (hop : op = .mapUpdate t m k x ∨ op = .insert t m k x) :
    ESound P C op (eMapUpdate K m' k' x') := by
  intro KR hKR S ρ e a w o h Kc n v h' n' hs hg hR ho hrel hf
  have hrm := opd_rel hs hg hR (by rcases hop with rfl | rfl <;> simp [Op.operands]) hm
  have hrk := opd_rel hs hg hR (by rcases hop with rfl | rfl <;> simp [Op.operands]) hk
  have hrx := opd_rel hs hg hR (by rcases hop with rfl | rfl <;> simp [Op.operands]) hx
  obtain ⟨i, kt, et, ei, hi, hu, hK, he, hze⟩ := mapZero_some hz
  have hu := hu ▸ hC.under hi
  obtain ⟨b, e1, f1⟩ := asMap_some.1 hf
  obtain ⟨f2, f3⟩ := cnd_some.1 f1
  obtain ⟨es, c, e2, f4⟩ := asMapO_some f3
  rw [e1] at hrm
  obtain ⟨r, mm, e3, hb⟩ := hrm.map_inv
  obtain ⟨r', mm', es', h1, h2, h3⟩ := hrel.map e2
  rw [hb] at h1
  simp only [Option.some.injEq, Prod.mk.injEq] at h1
  obtain ⟨rfl, rfl⟩ := h1
  have hnb : findKey K (ev e k') es 0 ≠ .bad := by
    intro hb
    rw [hb] at f4
    cases f4
  obtain ⟨fr, g1, g2⟩ := findKey_rel hC hK hrk h3 hnb w
  have g0 := checkKey_rel hC hK hrk f2 false w
  have fin : ∀ w', (Instr.mapUpdate t (a.eval m) (a.eval k) (a.eval x)).run P w = .ok () w' → (execOp a.eval o).run P w = .ok .skip w' := by
    intro w' hw
    unfold execOp
    rcases hop with rfl | rfl <;> (rw [ho]; simp only [Sem.run_bind, hw, Result.andThen_ok]; rfl)
  have head : ∀ w', ((match fr with
      | some (i, _) => do
        let key ← Instr.keyThatStays (((es'[i]?).map (·.key)).getD (a.eval k)) (a.eval k)
        setObj r (.map (es'.modify i fun e => { e with key, val := a.eval x }) c)
      | none => setObj r (.map (es'.push { key := a.eval k, val := a.eval x, born := c }) (c + 1)) : Sem Unit)).run P w = .ok () w' → (Instr.mapUpdate t (a.eval m) (a.eval k) (a.eval x)).run P w = .ok () w' := by
    intro w' hw
    simp only [Instr.mapUpdate, Sem.run_bind, run_underlying hu, Result.andThen_ok, e3, run_getObj_map h2, g0, g1]
    exact hw
  cases hfd : findKey K (ev e k') es 0 with
  | bad => exact absurd hfd hnb
  | no =>
    rw [hfd] at g2 f4
    have g2 : fr = none := g2
    subst g2
    simp only [updated, Option.some.injEq, Prod.mk.injEq] at f4
    obtain ⟨rfl, rfl, rfl⟩ := f4
    obtain ⟨w', hw, hst⟩ := map_write (P := P) hrel (es2 := appL es [(ev e k', ev e x', c)]) (c2 := c + 1) (es2' := es'.push { key := a.eval k, val := a.eval x, born := c }) e2 hb h2 (by
      rw [appL_eq, Array.toList_push]
      exact h3.snoc ⟨hrk, hrx, rfl⟩)
    exact ⟨ρ, w', .skip, fin _ (head _ hw), hst, Or.inr ⟨rfl, rfl⟩⟩
  | yes j v2 s =>
    rw [hfd] at g2 f4
    obtain ⟨d, y, y', rfl, q1, q2, rfl, _, _, q3, q4⟩ := g2
    simp only [updated, Option.some.injEq, Prod.mk.injEq] at f4
    obtain ⟨rfl, rfl, rfl⟩ := f4
    have hkey : ((es'[0 + d]?).map (·.key)).getD (a.eval k) = y'.key := by
      have : es'[0 + d]? = some y' := by rw [Nat.zero_add, ← Array.getElem?_toList]; exact q2
      rw [this]; rfl
    obtain ⟨w', hw, hst⟩ := map_write (P := P) hrel (es2 := setEntry (ev e k') (ev e x') es (0 + d)) (c2 := c) (es2' := es'.modify (0 + d) fun e => { e with key := a.eval k, val := a.eval x }) e2 hb h2 (by
      rw [Array.toList_modify]
      exact EsRel.modify (f := fun e0 => (ev e k', ev e x', e0.2.2)) (g := fun e0 => { e0 with key := a.eval k, val := a.eval x }) (fun _ _ he => ⟨hrk, hrx, he.2.2⟩) h3 (0 + d))
    refine ⟨ρ, w', .skip, fin _ (head _ ?_), hst, Or.inr ⟨rfl, rfl⟩⟩
    simp only [hkey, Sem.run_bind, run_keyThatStays (keyEq_bits hrk q3.1 q4), Result.andThen_ok]
    exact hw

theorem mapEntry_sound (hC : CxOk P C) {t : TypeId} {m k : Operand} {m' k' : COpd} {K : KS} {z : CV} (hz : mapZero C t = some (K, z)) (hm : opd C m = some m') (hk : opd C k = some k') :
    ESound P C (.mapEntry t m k) (eMapEntry K z m' k') := by
  intro KR hKR S ρ e a w o h Kc n v h' n' hs hg hR ho hrel hf
  have hrm := opd_rel hs hg hR (by simp [Op.operands]) hm
  have hrk := opd_rel hs hg hR (by simp [Op.operands]) hk
  obtain ⟨i, kt, et, ei, hi, hu, hK, he, hze⟩ := mapZero_some hz
  have hu := hu ▸ hC.under hi
  obtain ⟨zv, hzv, hzr⟩ := hC.run_zero he hze w
  obtain ⟨b, e1, f1⟩ := asMap_some.1 hf
  obtain ⟨f2, f3⟩ := cnd_some.1 f1
  obtain ⟨es, c, e2, f4⟩ := asMapO_some f3
  rw [e1] at hrm
  obtain ⟨r, mm, e3, hb⟩ := hrm.map_inv
  obtain ⟨r', mm', es', h1, h2, h3⟩ := hrel.map e2
  rw [hb] at h1
  simp only [Option.some.injEq, Prod.mk.injEq] at h1
  obtain ⟨rfl, rfl⟩ := h1
  have hnb : findKey K (ev e k') es 0 ≠ .bad := by
    intro hb
    rw [hb] at f4
    cases f4
  obtain ⟨fr, g1, g2⟩ := findKey_rel hC hK hrk h3 hnb w
  have g0 := checkKey_rel hC hK hrk f2 false w
  have fin : ∀ X w', (Instr.mapEntry t (a.eval m) (a.eval k)).run P w = .ok X w' → (execOp a.eval o).run P w = .ok (.value X) w' := by
    intro X w' hw
    unfold execOp
    rw [ho]; simp only [Sem.run_bind, hw, Result.andThen_ok]; rfl
  have head : ∀ X w', ((match fr with
      | some (i, v) => do
        let key ← Instr.keyThatStays (((es'[i]?).map (·.key)).getD (a.eval k)) (a.eval k)
        setObj r (.map (es'.modify i fun e => { e with key }) c)
        pure (.tuple #[v, goInt (((es'[i]?).map (·.born)).getD 0)])
      | none => do
        let zero ← zeroValue et
        setObj r (.map (es'.push { key := a.eval k, val := zero, born := c }) (c + 1))
        pure (.tuple #[zero, goInt c]) : Sem Value)).run P w = .ok X w' → (Instr.mapEntry t (a.eval m) (a.eval k)).run P w = .ok X w' := by
    intro X w' hw
    simp only [Instr.mapEntry, Sem.run_bind, run_underlying hu, Result.andThen_ok, e3, run_getObj_map h2, g0, g1]
    exact hw
  cases hfd : findKey K (ev e k') es 0 with
  | bad => exact absurd hfd hnb
  | no =>
    rw [hfd] at g2 f4
    have g2 : fr = none := g2
    subst g2
    simp only [entered, Option.some.injEq, Prod.mk.injEq] at f4
    obtain ⟨rfl, rfl, rfl⟩ := f4
    obtain ⟨w', hw, hst⟩ := map_write (P := P) hrel (es2 := appL es [(ev e k', z, c)]) (c2 := c + 1) (es2' := es'.push { key := a.eval k, val := zv, born := c }) e2 hb h2 (by
      rw [appL_eq, Array.toList_push]
      exact h3.snoc ⟨hrk, hzr ρ, rfl⟩)
    refine ⟨ρ, w', .value (.tuple #[zv, goInt c]), fin _ _ (head _ _ ?_), hst, Or.inl ⟨_, rfl, VRel.tuple_iff.2 ⟨_, rfl, .cons (hzr ρ) (.cons (.int _ _) (.nil _))⟩⟩⟩
    simp only [Sem.run_bind, hzv, hw, Result.andThen_ok, Sem.run_pure]
  | yes j v2 s =>
    rw [hfd] at g2 f4
    obtain ⟨d, y, y', rfl, q1, q2, rfl, rfl, rfl, q3, q4⟩ := g2
    simp only [entered, Option.some.injEq, Prod.mk.injEq] at f4
    obtain ⟨rfl, rfl, rfl⟩ := f4
    have hget : es'[0 + d]? = some y' := by rw [Nat.zero_add, ← Array.getElem?_toList]; exact q2
    have hkey : ((es'[0 + d]?).map (·.key)).getD (a.eval k) = y'.key := by rw [hget]; rfl
    have hborn : ((es'[0 + d]?).map (fun x => (x.born : Int))).getD 0 = (y'.born : Int) := by rw [hget]; rfl
    have hset : setEntry (ev e k') y.2.1 es (0 + d) = es.modify (0 + d) fun e0 => (ev e k', e0.2.1, e0.2.2) := by
      unfold setEntry
      apply List.ext_getElem?
      intro q
      simp only [List.getElem?_modify]
      by_cases hq : 0 + d = q
      · subst hq
        rw [Nat.zero_add, q1]
        simp
      · simp only [hq, if_false]
    obtain ⟨w', hw, hst⟩ := map_write (P := P) hrel (es2 := setEntry (ev e k') y.2.1 es (0 + d)) (c2 := c) (es2' := es'.modify (0 + d) fun e => { e with key := a.eval k }) e2 hb h2 (by
      rw [Array.toList_modify, hset]
      exact EsRel.modify (f := fun e0 => (ev e k', e0.2.1, e0.2.2)) (g := fun e0 => { e0 with key := a.eval k }) (fun _ _ he => ⟨hrk, he.2.1, he.2.2⟩) h3 (0 + d))
    refine ⟨ρ, w', .value (.tuple #[y'.val, goInt y'.born]), fin _ _ (head _ _ ?_), hst, Or.inl ⟨_, rfl, VRel.tuple_iff.2 ⟨_, rfl, .cons q3.2.1 (.cons ?_ (.nil _))⟩⟩⟩
    · simp only [hkey, hborn, Sem.run_bind, run_keyThatStays (keyEq_bits hrk q3.1 q4), Result.andThen_ok, hw, Sem.run_pure]
    · rw [q3.2.2]; exact .int _ _

theorem EsRel.findIdx {ρ : Ren} {s : Nat} : ∀ {es : List (CV × CV × Nat)} {es' : List MapEntry}, EsRel ρ es es' → es.findIdx? (fun x => Nat.beq x.2.2 s) = es'.findIdx? (fun e => (e.born : Int) == (Int.ofNat s))
  | [], [], _ => rfl
  | e :: es, e' :: es', h => by
    have hb := h.1.2.2
    have : (Nat.beq e.2.2 s) = ((e'.born : Int) == Int.ofNat s) := by
      rw [nat_beq_eq, hb, Bool.eq_iff_iff]
      simp
      omega
    rw [List.findIdx?_cons, List.findIdx?_cons, this, h.2.findIdx]
  | [], _ :: _, h => h.elim
  | _ :: _, [], h => h.elim

theorem entryStore_sound {t : TypeId} {m s x : Operand} {m' s' x' : COpd} (hm : opd C m = some m') (hs' : opd C s = some s') (hx : opd C x = some x') : ESound P C (.entryStore t m s x) (eEntryStore m' s' x') := by
  intro KR hKR S ρ e a w o h Kc n v h' n' hs hg hR ho hrel hf
  have hrm := opd_rel hs hg hR (by simp [Op.operands]) hm
  have hrs := opd_rel hs hg hR (by simp [Op.operands]) hs'
  have hrx := opd_rel hs hg hR (by simp [Op.operands]) hx
  obtain ⟨b, e1, f1⟩ := asMap_some.1 hf
  obtain ⟨k, st, e0, f2⟩ := asIdx_some.1 f1
  obtain ⟨es, c, e2, f3⟩ := asMapO_some f2
  simp only [Option.map_eq_some_iff, Prod.mk.injEq] at f3
  obtain ⟨i, hi, rfl, rfl, rfl⟩ := f3
  rw [e1] at hrm; rw [e0] at hrs
  obtain ⟨r, mm, e3, hb⟩ := hrm.map_inv
  obtain ⟨r', mm', es', h1, h2, h3⟩ := hrel.map e2
  rw [hb] at h1
  simp only [Option.some.injEq, Prod.mk.injEq] at h1
  obtain ⟨rfl, rfl⟩ := h1
  have hidx : es'.findIdx? (fun e => (e.born : Int) == (Int.ofNat st)) = some i := by
    rw [← hi, h3.findIdx, ← List.findIdx?_toArray, Array.toArray_toList]
  obtain ⟨w', hw, hst⟩ := map_write (P := P) hrel (es2 := es.modify i fun e0 => (e0.1, ev e x', e0.2.2)) (c2 := c) (es2' := es'.modify i fun e => { e with val := a.eval x }) e2 hb h2 (by
    rw [Array.toList_modify]
    exact EsRel.modify (f := fun e0 => (e0.1, ev e x', e0.2.2)) (g := fun e0 => { e0 with val := a.eval x }) (fun _ _ he => ⟨he.1, hrx, he.2.2⟩) h3 i)
  refine ⟨ρ, w', .skip, ?_, hst, Or.inr ⟨rfl, rfl⟩⟩
  unfold execOp
  rw [ho]
  have hint : (Go.asInt (a.eval s)).run P w = .ok (Int.ofNat st) w := by rw [hrs.int_inv]; rfl
  simp only [Instr.entryStore, e3, Sem.run_bind, run_getObj_map h2, Result.andThen_ok, hint]
  rw [show es'.findIdx? (fun e => ((e.born : Nat) : Int) == Int.ofNat st) = some i from hidx]
  simp only [hw, Result.andThen_ok, Sem.run_pure]

theorem range_sound {t : TypeId} {kt et : TypeId} {x : Operand} {y : COpd} (hu : P.underlying t = some (.map kt et)) (hx : opd C x = some y) : ESound P C (.range t x) (eRange y) := by
  intro KR hKR S ρ e a w o h Kc n v h' n' hs hg hR ho hrel hf
  have hr := opd_rel hs hg hR (by simp [Op.operands]) hx
  simp only [eRange] at hf
  generalize ev e y = cv at hf hr
  cases cv <;> simp only [rangeCV, reduceCtorEq, Option.some.injEq, Prod.mk.injEq] at hf
  case nilmap =>
    obtain ⟨rfl, rfl, rfl⟩ := hf
    have hst := Step.alloc hKR hrel (x := .mapIter none 0 #[] 0) (m := 0) (o := .mapIter none 0 [] 0) ⟨rfl, rfl, rfl⟩ { w with heap := w.heap.push (.mapIter none 0 #[] 0) } rfl rfl rfl rfl
    refine ⟨_, _, .value (.pointer (some ⟨w.heap.size, 0, none⟩)), ?_, by rw [get_set_fun]; exact hst, Or.inl ⟨_, rfl, .ptr _ _ _ _ (ext_same _ _ _)⟩⟩
    unfold execOp
    rw [ho]
    simp only [Instr.range, Sem.run_bind, run_underlying hu, Result.andThen_ok, hr.nilmap_inv, Sem.run_pure]
    rfl
  case map b =>
    obtain ⟨es, c, h1, h2⟩ := asMapO_some hf
    simp only [Option.some.injEq, Prod.mk.injEq] at h2
    obtain ⟨rfl, rfl, rfl⟩ := h2
    obtain ⟨r, mm, es', h3, h4, h5⟩ := hrel.map h1
    obtain ⟨r', mm', h6, h7⟩ := hr.map_inv
    rw [h3] at h7
    simp only [Option.some.injEq, Prod.mk.injEq] at h7
    obtain ⟨rfl, rfl⟩ := h7
    have hst := Step.alloc hKR hrel (x := .mapIter (some r) c #[] c) (m := 0) (o := .mapIter (some b) c [] c) ⟨⟨mm, h3⟩, rfl, rfl, rfl⟩ { w with heap := w.heap.push (.mapIter (some r) c #[] c) } rfl rfl rfl rfl
    refine ⟨_, _, .value (.pointer (some ⟨w.heap.size, 0, none⟩)), ?_, by rw [get_set_fun]; exact hst, Or.inl ⟨_, rfl, .ptr _ _ _ _ (ext_same _ _ _)⟩⟩
    unfold execOp
    rw [ho]
    simp only [Instr.range, Sem.run_bind, run_underlying hu, Result.andThen_ok, h6, run_getObj_map h4, Sem.run_pure]
    rfl

theorem delete_sound (hC : CxOk P C) {c : Call} (hc : c.callee = .builtin .delete) {t t2 : TypeId} {m k : Operand} (ht : c.argTypes.toList = [t, t2]) (hx : c.args.toList = [m, k]) {m' k' : COpd} {K : KS} {z : CV} (hz : mapZero C t = some (K, z))
    (hm : opd C m = some m') (hk : opd C k = some k') : ESound P C (.call c) (eDelete K m' k') := by
  intro KR hKR S ρ e a w o h Kc n v h' n' hs hg hR ho hrel hf
  rw [call_operands hc] at hR
  have hargs := toList_two hx
  have htys := toList_two ht
  have hrm := opd_rel hs hg hR (x := m) (by rw [hargs]; simp) hm
  have hrk := opd_rel hs hg hR (x := k) (by rw [hargs]; simp) hk
  obtain ⟨i, kt, et, ei, hi, hu, hK, he, hze⟩ := mapZero_some hz
  have hu := hu ▸ hC.under hi
  obtain ⟨f2, f3⟩ := cnd_some.1 hf
  have fin : ∀ w', (Builtin.delete_ #[t, t2] o.type #[a.eval m, a.eval k]).run P w = .ok (.tuple #[]) w' → (execOp a.eval o).run P w = .ok (.value (.tuple #[])) w' := by
    intro w' hw
    rw [exec_builtin ho hc, hargs, htys]
    simp [builtin, hw]
  generalize ev e m' = cv at hrm f3
  cases cv <;> simp only [eDelete.delCV, reduceCtorEq, Option.some.injEq, Prod.mk.injEq] at f3
  case nilmap =>
    obtain ⟨rfl, rfl, rfl⟩ := f3
    refine ⟨ρ, w, _, fin w ?_, Step.refl hrel, Or.inl ⟨_, rfl, VRel.undef ρ⟩⟩
    have g0 := checkKey_rel hC hK hrk f2 true w
    simp [Builtin.delete_, run_underlying hu, hrm.nilmap_inv, g0]
  case map b =>
    obtain ⟨es, cl, e2, f4⟩ := asMapO_some f3
    obtain ⟨r, mm, e3, hb⟩ := hrm.map_inv
    obtain ⟨r', mm', es', h1, h2, h3⟩ := hrel.map e2
    rw [hb] at h1
    simp only [Option.some.injEq, Prod.mk.injEq] at h1
    obtain ⟨rfl, rfl⟩ := h1
    have hnb : findKey K (ev e k') es 0 ≠ .bad := by
      intro hb
      rw [hb] at f4
      cases f4
    obtain ⟨fr, g1, g2⟩ := findKey_rel hC hK hrk h3 hnb w
    have g0 := checkKey_rel hC hK hrk f2 es'.isEmpty w
    cases hfd : findKey K (ev e k') es 0 with
    | bad => exact absurd hfd hnb
    | no =>
      rw [hfd] at g2 f4
      have g2 : fr = none := g2
      subst g2
      simp only [removed, Option.some.injEq, Prod.mk.injEq] at f4
      obtain ⟨rfl, rfl, rfl⟩ := f4
      have hself : w.heap.setIfInBounds r (.map es' cl) = w.heap := by
        apply Array.ext_getElem?
        intro q
        rw [Array.getElem?_setIfInBounds]
        split
        · rename_i hq
          subst hq
          rw [if_pos (get_lt h2), h2]
        · rfl
      refine ⟨ρ, w, _, fin w ?_, Step.refl hrel, Or.inl ⟨_, rfl, VRel.undef ρ⟩⟩
      have hw := run_setObj (P := P) (o := .map es' cl) h2 (by intros; simp)
      rw [hself] at hw
      simp [Builtin.delete_, run_underlying hu, e3, run_getObj_map h2, g0, g1, hw]
    | yes j v2 s =>
      rw [hfd] at g2 f4
      obtain ⟨d, y, y', rfl, q1, q2, rfl, rfl, rfl, q3, q4⟩ := g2
      simp only [removed, Option.some.injEq, Prod.mk.injEq] at f4
      obtain ⟨rfl, rfl, rfl⟩ := f4
      obtain ⟨w', hw, hst⟩ := map_write (P := P) hrel (es2 := es.eraseIdx (0 + d)) (c2 := cl) (es2' := es'.eraseIdxIfInBounds (0 + d)) e2 hb h2 (by
        rw [Array.toList_eraseIdxIfInBounds]
        exact h3.erase _)
      refine ⟨ρ, w', _, fin w' ?_, hst, Or.inl ⟨_, rfl, VRel.undef ρ⟩⟩
      simp only [Nat.zero_add] at g1 hw
      simp [Builtin.delete_, run_underlying hu, e3, run_getObj_map h2, g0, g1, hw]

end
end Go.Cm

/-
  The C machine, part R: copies of rows.
-/
namespace Go.Cm

section
variable {P : Program} {C : Cx}

theorem lenOf_rel {ρ : Ren} {v : CV} {u : Value} {L : Nat} (hr : VRel ρ v u) (h : lenOf v = some L) (w : World) : (Builtin.lenOf u).run P w = .ok L w := by
  cases v <;> simp only [lenOf, reduceCtorEq, Option.some.injEq] at h
  case str s =>
    subst h
    obtain ⟨b, rfl, rfl⟩ := hr.str_inv
    rw [lenL_eq]
    simp [Builtin.lenOf]
  case nilslice => subst h; rw [hr.nilslice_inv]; rfl
  case emptysl => subst h; obtain ⟨a, c, rfl⟩ := hr.emptysl_inv; rfl
  case slice => subst h; obtain ⟨r, m, c', rfl, _⟩ := hr.slice_inv; rfl

theorem firstCells_rel' {KR : KRelT} {ρ : Ren} {h : Heap} {H : Nat → Option MObj} {K : Nat → Option LObj} {k : Nat} {w : World} (hrel : Rel KR ρ H K k w) (hsub : ∀ b x, h.get b = some x → H b = some x) {v : CV} {u : Value} {n m L : Nat} {cs : List CV}
    (hr : VRel ρ v u) (hL : lenOf v = some L) (hm : m ≤ L) (h1 : firstCells h n m v = some cs) (hn : 0 < n) : ∃ us : Array Value, (∀ j : Nat, (Builtin.firstCells n m u).run P { w with drawn := j } = .ok us { w with drawn := j }) ∧ LRel ρ cs us.toList := by
  cases v <;> simp only [firstCells, lenOf, reduceCtorEq, Option.some.injEq] at h1 hL
  case str s =>
    obtain ⟨_, h1⟩ := cnd_some.1 h1
    simp only [Option.some.injEq] at h1
    subst h1
    obtain ⟨b, rfl, rfl⟩ := hr.str_inv
    refine ⟨_, fun _ => rfl, ?_⟩
    rw [mapL_eq, takeL_eq]
    have e : ((b.extract 0 m).data.map fun b => Value.int .u8 b.toNat).toList = ((b.data.toList.map (·.toNat)).take m).map fun c => Value.int .u8 (Int.ofNat c) := by
      have := extract_bytes b 0 m
      rw [List.drop_zero, Nat.sub_zero] at this
      rw [← this, Array.toList_map, List.map_map]
      rfl
    rw [e]
    exact LRel.map fun c _ => .int _ _
  case nilslice =>
    subst h1
    rw [hr.nilslice_inv]
    exact ⟨#[], fun _ => rfl, .nil ρ⟩
  case emptysl =>
    subst h1 hL
    obtain ⟨a, c, rfl⟩ := hr.emptysl_inv
    have : m = 0 := by omega
    subst this
    refine ⟨#[], fun _ => ?_, .nil ρ⟩
    simp [Builtin.firstCells, loadCells, loadCellsFrom]
  case slice b o len cap ex =>
    obtain ⟨vs, el, fz, e2, f2⟩ := asCells_some h1
    obtain ⟨f3, f4⟩ := cnd_some.1 f2
    rw [lenGe_eq, decide_eq_true_eq] at f3
    simp only [Option.some.injEq, takeL_eq, dropL_eq] at f4
    subst f4
    obtain ⟨r, mm, c', rfl, hb, _⟩ := hr.slice_inv
    obtain ⟨r', m', c, fz', g1, g2, g3, g4, g5, _⟩ := hrel.cells (hsub _ _ e2)
    rw [hb] at g1
    simp only [Option.some.injEq, Prod.mk.injEq] at g1
    obtain ⟨rfl, rfl⟩ := g1
    refine ⟨_, fun j => run_cells (w := { w with drawn := j }) g2 (by omega), ?_⟩
    have := (g5.drop o).take (m * n)
    rw [List.drop_take, List.take_take, Nat.min_eq_left (by omega)] at this
    simpa using this

theorem firstCells_rel {KR : KRelT} {ρ : Ren} {h : Heap} {H : Nat → Option MObj} {K : Nat → Option LObj} {k : Nat} {w : World} (hrel : Rel KR ρ H K k w) (hsub : ∀ b x, h.get b = some x → H b = some x) {v : CV} {u : Value} {n m L : Nat} {cs : List CV}
    (hr : VRel ρ v u) (hL : lenOf v = some L) (hm : m ≤ L) (h1 : firstCells h n m v = some cs) (hn : 0 < n) : ∃ us : Array Value, (Builtin.firstCells n m u).run P w = .ok us w ∧ LRel ρ cs us.toList := by
  obtain ⟨us, h2, h3⟩ := firstCells_rel' (P := P) hrel hsub hr hL hm h1 hn
  exact ⟨us, h2 w.drawn, h3⟩

theorem firstCells_len {h : Heap} {n m L : Nat} {v : CV} {cs : List CV} (hL : lenOf v = some L) (hm : m ≤ L) (h1 : firstCells h n m v = some cs) : cs.length = m * n := by
  cases v <;> simp only [firstCells, lenOf, reduceCtorEq, Option.some.injEq] at h1 hL
  case str s =>
    obtain ⟨h2, h1⟩ := cnd_some.1 h1
    rw [nat_beq_eq, decide_eq_true_eq] at h2
    simp only [Option.some.injEq] at h1
    subst h1 h2
    rw [lenL_eq] at hL
    rw [mapL_eq, takeL_eq]
    simp
    omega
  case nilslice => subst h1; obtain rfl : m = 0 := by omega
                   simp
  case emptysl => subst h1; obtain rfl : m = 0 := by omega
                  simp
  case slice b o len cap ex =>
    obtain ⟨vs, el, fz, e2, f2⟩ := asCells_some h1
    obtain ⟨f3, f4⟩ := cnd_some.1 f2
    rw [lenGe_eq, decide_eq_true_eq] at f3
    simp only [Option.some.injEq, takeL_eq, dropL_eq] at f4
    subst f4
    simp
    omega

theorem run_firstCells_none {u : Value} {n L : Nat} {w : World} (hL : (Builtin.lenOf u).run P w = .ok L w) : (Builtin.firstCells n 0 u).run P w = .ok #[] w := by
  cases u <;> first | (cases hL; done) | skip
  case string s => simp [Builtin.firstCells]
  case slice b l c => cases b <;> simp [Builtin.firstCells, loadCells, loadCellsFrom]

theorem copy_sound (hC : CxOk P C) {c : Call} (hc : c.callee = .builtin .copy) {t t2 : TypeId} {p x : Operand} (ht : c.argTypes.toList = [t, t2]) (hx : c.args.toList = [p, x]) {p' x' : COpd} {el n by' : Nat} {z : List CV} (hs' : sliceOf C t = some (el, n, by', z))
    (hp : opd C p = some p') (hxx : opd C x = some x') : ESound P C (.call c) (eCopy n p' x') := by
  intro KR hKR S ρ e a w o h Kc k v h' k' hs hg hR ho hrel hf
  rw [call_operands hc] at hR
  have hargs := toList_two hx
  have htys := toList_two ht
  have hrp := opd_rel hs hg hR (x := p) (by rw [hargs]; simp) hp
  have hrx := opd_rel hs hg hR (x := x) (by rw [hargs]; simp) hxx
  obtain ⟨i, ei, hi, hu, he, hz, rfl, hn, rfl⟩ := sliceOf_some hs'
  have hu := hu ▸ hC.under hi
  obtain ⟨m, hm, f1⟩ := rec_some.1 hf
  have hlen := lenOf_rel (P := P) hrx hm w
  have fin : ∀ X w', (Builtin.copy_ #[t, t2] o.type #[a.eval p, a.eval x]).run P w = .ok X w' → (execOp a.eval o).run P w = .ok (.value X) w' := by
    intro X w' hw
    rw [exec_builtin ho hc, hargs, htys]
    simp [builtin, hw]
  generalize ev e p' = cv at hrp f1
  cases cv <;> simp only [copyTo, reduceCtorEq, Option.some.injEq, Prod.mk.injEq] at f1
  case nilslice =>
    obtain ⟨rfl, rfl, rfl⟩ := f1
    refine ⟨ρ, w, _, fin (goInt 0) w ?_, Step.refl hrel, Or.inl ⟨_, rfl, .int _ _⟩⟩
    simp [Builtin.copy_, run_underlying hu, hrp.nilslice_inv, hlen, hC.run_size he, run_firstCells_none hlen]
  case emptysl =>
    obtain ⟨rfl, rfl, rfl⟩ := f1
    obtain ⟨b, cc, e1⟩ := hrp.emptysl_inv
    refine ⟨ρ, w, _, fin (goInt 0) w ?_, Step.refl hrel, Or.inl ⟨_, rfl, .int _ _⟩⟩
    simp [Builtin.copy_, run_underlying hu, e1, hlen, hC.run_size he, run_firstCells_none hlen, storeCells]
  case slice b q len cap ex =>
    obtain ⟨cs, hcs, f2⟩ := rec_some.1 f1
    obtain ⟨r, mm, c', e1, hb, _⟩ := hrp.slice_inv
    obtain ⟨us, hus, hl⟩ := firstCells_rel (P := P) hrel (fun _ _ h => h) hrx hm (Nat.min_le_left m len) hcs hn
    have hus' : (Builtin.firstCells ei.size (Nat.min m len) (a.eval x)).run P w = .ok us w := hus
    rw [nat_beq_eq] at f2
    by_cases h0 : min m len = 0
    · simp only [h0, decide_true, cnd_true, Option.some.injEq, Prod.mk.injEq] at f2
      obtain ⟨rfl, rfl, rfl⟩ := f2
      refine ⟨ρ, w, _, fin (goInt 0) w ?_, Step.refl hrel, Or.inl ⟨_, rfl, .int _ _⟩⟩
      have h0' : Nat.min m len = 0 := h0
      simp [Builtin.copy_, run_underlying hu, e1, hlen, hC.run_size he, h0', run_firstCells_none hlen, storeCells]
    · simp only [h0, decide_false, cnd_false, Option.map_eq_some_iff, Prod.mk.injEq] at f2
      obtain ⟨h2, hst, rfl, rfl, rfl⟩ := f2
      obtain ⟨w', hw, hstep⟩ := storeAt_rel (P := P) hrel hl hb hst
      refine ⟨ρ, w', _, fin (goInt (min m len : Nat)) w' ?_, hstep, Or.inl ⟨_, rfl, .int _ _⟩⟩
      simp [Builtin.copy_, run_underlying hu, e1, hlen, hC.run_size he, hus', hw]

end
end Go.Cm

/-
  The C machine, part S: append.
-/
namespace Go.Cm

section
variable {KR : KRelT} {ρ : Ren} {H : Nat → Option MObj} {K : Nat → Option LObj} {n : Nat} {w : World}

/-- A block that is given up here, and lives on under a new number. -/
theorem Step.move (hK : KMono KR) (h : Rel KR ρ H K n w) {b r m : Nat} {o o' : MObj} {x x' : Obj} (hb : H b = some o) (hr : ρ b = some (r, m)) (hx : w.heap[r]? = some x) (ho : ORel ρ m o' x') (w' : World)
    (hw : ∀ k, w'.heap[k]? = if k = r then some x' else w.heap[k]?) (ht : w'.tape = w.tape) (hos : w'.os = w.os) (hout : w'.output = w.output) :
    Step KR ρ H K n w (ext ρ n (r, m)) (upd (upd H b none) n (some o')) K (n + 1) w' := by
  have hlb : Live H K b := Or.inl (by rw [hb]; simp)
  have hn : ρ n = none := h.fresh n (Nat.le_refl _)
  have hbn : b ≠ n := by rintro rfl; rw [hn] at hr; cases hr
  have hsub := ext_sub (x := (r, m)) hn
  have hlive : ∀ c, Live (upd (upd H b none) n (some o')) K c → c = n ∨ (c ≠ b ∧ Live H K c) := by
    intro c hc
    by_cases e : c = n
    · exact Or.inl e
    · refine Or.inr ?_
      rcases hc with hc | hc
      · by_cases e2 : c = b
        · simp [upd, e2, hbn] at hc
        · exact ⟨e2, Or.inl (by simpa [upd, e, e2] using hc)⟩
      · refine ⟨?_, Or.inr hc⟩
        rintro rfl
        exact hc (h.apart _ _ hb)
  have hsz : w'.heap.size = w.heap.size := by
    have hr' := get_lt hx
    by_cases h1 : w'.heap.size < w.heap.size
    · have h2 := hw w'.heap.size
      rw [Array.getElem?_eq_none (Nat.le_refl _)] at h2
      split at h2
      · cases h2
      · rw [Array.getElem?_eq_getElem h1] at h2; cases h2
    · by_cases h2 : w.heap.size < w'.heap.size
      · have h3 := hw w.heap.size
        rw [Array.getElem?_eq_getElem h2, if_neg (by omega), Array.getElem?_eq_none (Nat.le_refl _)] at h3
        cases h3
      · omega
  have hold : ∀ c r1 m1, Live H K c → ext ρ n (r, m) c = some (r1, m1) → ρ c = some (r1, m1) := by
    intro c r1 m1 hc e
    obtain ⟨r2, k1, y1, h1, h2⟩ := h.live_get hc
    rw [hsub _ _ h1] at e
    rw [h1, e]
  refine ⟨hsub, ⟨fun c hc => ?_, fun c p hp => ?_, fun c l hl => ?_, fun c d r1 m1 m2 hc hd e1 e2 => ?_, fun c p hp => ?_⟩, by omega, by omega, ht, hos, hout, fun c hc => ?_, fun c r1 m1 hc e => ?_, fun k y hy hn' => ?_, fun c hc => ext_other (by omega)⟩
  · rw [ext_other (by omega)]; exact h.fresh c (by omega)
  · by_cases e : c = n
    · subst e
      simp only [upd, if_true, Option.some.injEq] at hp
      subst hp
      exact ⟨r, m, x', ext_same _ _ _, by rw [hw, if_pos rfl], ho.mono hsub⟩
    · by_cases e2 : c = b
      · simp [upd, e2, hbn] at hp
      · simp only [upd, e, e2, if_false] at hp
        obtain ⟨r1, m1, y, h1, h2, h3⟩ := h.data c p hp
        refine ⟨r1, m1, y, hsub _ _ h1, ?_, h3.mono hsub⟩
        rw [hw, if_neg, h2]
        rintro rfl
        exact e2 (h.inj c b _ _ _ (Or.inl (by rw [hp]; simp)) hlb h1 hr)
  · obtain ⟨r1, m1, y, h1, h2, h3⟩ := h.ctl c l hl
    have e : c ≠ b := by
      rintro rfl
      rw [h.apart c o hb] at hl
      cases hl
    refine ⟨r1, m1, y, hsub _ _ h1, ?_, hK _ _ _ _ hsub h3⟩
    rw [hw, if_neg, h2]
    rintro rfl
    exact e (h.inj c b _ _ _ (Or.inr (by rw [hl]; simp)) hlb h1 hr)
  · rcases hlive c hc with rfl | ⟨nb, hc'⟩ <;> rcases hlive d hd with e | ⟨nb', hd'⟩
    · exact e.symm
    · rw [ext_same] at e1
      simp only [Option.some.injEq, Prod.mk.injEq] at e1
      obtain ⟨rfl, rfl⟩ := e1
      exact absurd (h.inj d b _ _ _ hd' hlb (hold d _ _ hd' e2) hr) nb'
    · subst e
      rw [ext_same] at e2
      simp only [Option.some.injEq, Prod.mk.injEq] at e2
      obtain ⟨rfl, rfl⟩ := e2
      exact absurd (h.inj c b _ _ _ hc' hlb (hold c _ _ hc' e1) hr) nb
    · exact h.inj c d _ _ _ hc' hd' (hold c _ _ hc' e1) (hold d _ _ hd' e2)
  · by_cases e : c = n
    · subst e
      cases hk : K c with
      | none => rfl
      | some l => obtain ⟨r1, m1, y, h1, _⟩ := h.ctl c l hk; rw [hn] at h1; cases h1
    · by_cases e2 : c = b
      · simp [upd, e2, hbn] at hp
      · simp only [upd, e, e2, if_false] at hp
        exact h.apart c p hp
  · rcases hlive c hc with rfl | ⟨_, hc'⟩
    · exact Or.inr (Nat.le_refl _)
    · exact Or.inl hc'
  · rcases hlive c hc with rfl | ⟨_, hc'⟩
    · rw [ext_same] at e
      simp only [Option.some.injEq, Prod.mk.injEq] at e
      obtain ⟨rfl, rfl⟩ := e
      exact Or.inr ⟨b, _, hlb, hr⟩
    · exact Or.inr ⟨c, _, hc', hold c _ _ hc' e⟩
  · rw [hw, if_neg, hy]
    rintro rfl
    exact hn' b m hlb hr

end

section
variable {P : Program} {C : Cx}

/-- What is appended: how many elements, and their cells. -/
def Appended (P : Program) (el size bytes : Nat) (d : TypeDesc) (x : Value) (m : Nat) (new : Array Value) (w : World) : Prop :=
  (((∃ e, d = .slice e) ∨ d = .string) ∧ (∀ k : Nat, (Builtin.lenOf x).run P { w with drawn := k } = .ok m { w with drawn := k }) ∧ ∀ k : Nat, (Builtin.firstCells size m x).run P { w with drawn := k } = .ok new { w with drawn := k }) ∨
    (∃ k, d = .int k) ∧ (∃ k, x = .int k (m : Int)) ∧ m * bytes ≤ 281474976710656 ∧ m ≤ 9223372036854775807 ∧ ∃ zv, (∀ w, (zeroValue el).run P w = .ok zv w) ∧ (if m * size = 0 then new = #[] else new = Builtin.zeroCells zv.cells m)

theorem run_append_in {s el t2 ty : TypeId} {size : Nat} {inf : TypeInfo} {d : TypeDesc} {base : Option Addr} {len cap m : Nat} {x : Value} {new : Array Value} {w : World} (hu : P.underlying s = some (.slice el)) (hsz : ∀ w, (sizeOf el).run P w = .ok size w)
    (hinf : ∀ w, (typeInfo el).run P w = .ok inf w) (h2 : P.underlying t2 = some d) (ha : Appended P el size inf.bytes d x m new w) (hneed : len + m ≤ cap) :
    (Builtin.append_ #[s, t2] ty #[.slice base len cap, x]).run P w = ((match base with | some a => storeCells (a.add (len * size)) new.toList | none => pure ()).run P w).andThen fun _ w' => .ok (.slice base (len + m) cap) w' := by
  rcases ha with ⟨hd, hl, hc⟩ | ⟨⟨k1, rfl⟩, ⟨k, rfl⟩, hb, hm, zv, hz, hnew⟩
  · have hc0 : (Builtin.firstCells size m x).run P w = .ok new w := hc w.drawn
    have hl0 : (Builtin.lenOf x).run P w = .ok m w := hl w.drawn
    rcases hd with ⟨e, rfl⟩ | rfl <;>
      (simp [Builtin.append_, run_underlying hu, run_underlying h2, hsz, hl0, hneed, hc0]; cases base <;> simp [Result.andThen])
  · have hw := wrap_i64 m hm
    have hb' : ¬ ((281474976710656 : Int) < (m : Int) * (inf.bytes : Int)) := by
      have : ((m * inf.bytes : Nat) : Int) ≤ 281474976710656 := by omega
      rw [Int.natCast_mul] at this
      omega
    have h0 : ¬ ((m : Int) < 0) := by omega
    simp [Builtin.append_, run_underlying hu, run_underlying h2, hsz, hneed, Go.asInt, run_asIntOf, hw, hinf, hb', h0]
    by_cases h00 : m * size = 0
    · simp only [h00, if_true] at hnew ⊢
      subst hnew
      cases base <;> simp [Result.andThen]
    · simp only [h00, if_false] at hnew ⊢
      subst hnew
      rw [hz]
      cases base <;> simp [Result.andThen]

theorem run_append_new {s el t2 ty : TypeId} {size : Nat} {inf : TypeInfo} {d : TypeDesc} {base : Option Addr} {len cap m : Nat} {x zv : Value} {old new : Array Value} {w : World} (hu : P.underlying s = some (.slice el)) (hsz : ∀ w, (sizeOf el).run P w = .ok size w)
    (hinf : ∀ w, (typeInfo el).run P w = .ok inf w) (hzv : ∀ w, (zeroValue el).run P w = .ok zv w) (h2 : P.underlying t2 = some d) (ha : Appended P el size inf.bytes d x m new w) (hneed : ¬ len + m ≤ cap) (hroom : roomy (len + m) inf.bytes = true)
    (hold : ∀ k : Nat, (Builtin.firstCells size len (.slice base len cap)).run P { w with drawn := k } = .ok old { w with drawn := k }) :
    ∃ c, len + m ≤ c ∧ (Builtin.append_ #[s, t2] ty #[.slice base len cap, x]).run P w =
      .ok (.slice (some ⟨w.heap.size, 0, none⟩) (len + m) c) { w with drawn := w.drawn + 1, heap := w.heap.push (.cells (old ++ new ++ Builtin.zeroCells zv.cells (c - (len + m))) el) } := by
  simp only [roomy, Bool.and_eq_true, Nat.ble_eq] at hroom
  have h63 : ¬ ((9223372036854775807 : Int) < (len : Int) + (m : Int)) := by omega
  have h48 : ¬ (281474976710656 < Builtin.nextslicecap (len + m) cap * inf.bytes) := by
    have h1 : Builtin.nextslicecap (len + m) cap * inf.bytes ≤ 2 * (len + m) * inf.bytes := Nat.mul_le_mul_right _ (nextslicecap_le (by omega))
    have h2 : 2 * (len + m) * inf.bytes ≤ (4 * (len + m) + 4096) * inf.bytes := Nat.mul_le_mul_right _ (by omega)
    omega
  refine ⟨grownCap w (len + m) cap el, Nat.le_add_right _ _, ?_⟩
  have hold' : (Builtin.firstCells size len (.slice base len cap)).run P w.drew = .ok old w.drew := hold (w.drawn + 1)
  rcases ha with ⟨hd, hl, hc⟩ | ⟨⟨k1, rfl⟩, ⟨k, rfl⟩, hb, hm, zv', hz, hnew⟩
  · have hc0 : (Builtin.firstCells size m x).run P w.drew = .ok new w.drew := hc (w.drawn + 1)
    have hl0 : (Builtin.lenOf x).run P w = .ok m w := hl w.drawn
    rcases hd with ⟨e, rfl⟩ | rfl <;>
      simp [Builtin.append_, run_underlying hu, run_underlying h2, hsz, hinf, hl0, hneed, hc0, h63, h48, Question.forced, hold', hzv, grownCap, newRow, newObj]
    all_goals rfl
  · have hw := wrap_i64 m hm
    have hb' : ¬ ((281474976710656 : Int) < (m : Int) * (inf.bytes : Int)) := by
      have : ((m * inf.bytes : Nat) : Int) ≤ 281474976710656 := by omega
      rw [Int.natCast_mul] at this
      omega
    have h0 : ¬ ((m : Int) < 0) := by omega
    by_cases h00 : m * size = 0
    · simp only [h00, if_true] at hnew
      subst hnew
      simp [Builtin.append_, run_underlying hu, run_underlying h2, hsz, hinf, hneed, Go.asInt, run_asIntOf, hw, hb', h0, h63, h48, Question.forced, hold', hzv, grownCap, newRow, newObj, h00]
      rfl
    · simp only [h00, if_false] at hnew
      subst hnew
      have hzz : zv' = zv := by
        have := hz w
        rw [hzv w] at this
        injection this with h1 _
        exact h1.symm
      subst hzz
      simp [Builtin.append_, run_underlying hu, run_underlying h2, hsz, hinf, hneed, Go.asInt, run_asIntOf, hw, hb', h0, h63, h48, Question.forced, hold', hzv, grownCap, newRow, newObj, h00]
      rfl

/-- A block given up. -/
theorem Rel.drop {KR : KRelT} {ρ : Ren} {H : Nat → Option MObj} {K : Nat → Option LObj} {n : Nat} {w : World} (h : Rel KR ρ H K n w) (b : Nat) : Rel KR ρ (upd H b none) K n w := by
  have hl : ∀ c, Live (upd H b none) K c → Live H K c := by
    intro c hc
    rcases hc with hc | hc
    · by_cases e : c = b
      · simp [upd, e] at hc
      · exact Or.inl (by simpa [upd, e] using hc)
    · exact Or.inr hc
  refine ⟨h.fresh, fun c o ho => ?_, h.ctl, fun c d r m m' hc hd => h.inj c d r m m' (hl c hc) (hl d hd), fun c o ho => ?_⟩ <;>
    (by_cases e : c = b
     · simp [upd, e] at ho
     · simp only [upd, e, if_false] at ho
       first | exact h.data c o ho | exact h.apart c o ho)

theorem Step.drop {KR : KRelT} {ρ : Ren} {H : Nat → Option MObj} {K : Nat → Option LObj} {n : Nat} {w : World} (h : Rel KR ρ H K n w) (b : Nat) : Step KR ρ H K n w ρ (upd H b none) K n w := by
  have hl : ∀ c, Live (upd H b none) K c → Live H K c := by
    intro c hc
    rcases hc with hc | hc
    · by_cases e : c = b
      · simp [upd, e] at hc
      · exact Or.inl (by simpa [upd, e] using hc)
    · exact Or.inr hc
  exact ⟨.refl _, h.drop b, Nat.le_refl _, Nat.le_refl _, rfl, rfl, rfl, fun c hc => Or.inl (hl c hc), fun c r m hc hr => Or.inr ⟨c, m, hl c hc, hr⟩, fun _ _ h _ => h, fun _ _ => rfl⟩

end
end Go.Cm

/-
  The C machine, part T: append, joined.
-/
namespace Go.Cm

section
variable {P : Program} {C : Cx}

theorem zeroCells_size (z : Array Value) (n : Nat) : (Builtin.zeroCells z n).size = n * z.size := by simp [Builtin.zeroCells]

/-- A row that grew: 'vs' lies at its head. -/
theorem orel_grown {ρ : Ren} {vs : List CV} {us : List Value} {c : Array Value} (el : Nat) (fz : Nat × Nat) (hl : LRel ρ vs us) (hc : c.toList.take us.length = us) (hu : us.length ≤ c.size) :
    ORel ρ c.size (.cells vs el fz) (.cells c el (0, 0)) := by
  have h1 := hl.1
  refine ⟨rfl, rfl, by omega, ?_, Or.inr (Or.inl rfl)⟩
  rw [h1, hc]
  exact hl

theorem appendTo_sound (hC : CxOk P C) {KR : KRelT} (hK : KMono KR) {ρ : Ren} {h : Heap} {K : Nat → Option LObj} {k : Nat} {w : World} (hrel : Rel KR ρ h.get K k w) {s el t2 ty : TypeId} {ei : TI} {z : List CV}
    (hu : P.underlying s = some (.slice el)) (hei : C.ti el = some ei) (hz : zeroCells ei = some z) (hn : 0 < ei.size) {d : TypeDesc} (h2 : P.underlying t2 = some d)
    {x : Value} {m : Nat} {new : List CV} {us : Array Value} (hnew : LRel ρ new us.toList) (hlen : new.length = m * ei.size) (ha : Appended P el ei.size ei.bytes d x m us w)
    {sv : CV} {su : Value} (hs : VRel ρ sv su) {v : CV} {h' : Heap} {k' : Nat} (hf : appendTo el ei.size ei.bytes m new sv h k = some (v, h', k')) :
    ∃ ρ' w' v', (Builtin.append_ #[s, t2] ty #[su, x]).run P w = .ok v' w' ∧ Step KR ρ h.get K k w ρ' h'.get K k' w' ∧ VRel ρ' v v' := by
  have hsz := fun w => hC.run_size hei w
  obtain ⟨inf, hi0, hi1, hi2⟩ : ∃ inf, (∀ w, (typeInfo el).run P w = .ok inf w) ∧ inf.size = ei.size ∧ inf.bytes = ei.bytes := by
    obtain ⟨inf, g1, g2, g3, g4, _⟩ := hC.ti el ei hei
    exact ⟨inf, fun w => by simp [typeInfo, g1], g3, g4⟩
  obtain ⟨zc, hzc, rfl, hzl⟩ := zero_cells hz
  obtain ⟨infz, zv, hzi, hzv0, hzr⟩ := hC.zero_some hei hzc
  have hzv : ∀ w, (zeroValue el).run P w = .ok zv w := fun w => by simp [zeroValue, typeInfo, hzi, hzv0]
  have hzs : zv.cells.size = ei.size := by have := (hzr ρ).cells.1; simp at this; omega
  rw [← hi2] at ha
  have hul : us.size = m * ei.size := by have := hnew.1; simp at this; omega
  -- a new row
  have grow : ∀ (base : Option Addr) (len cap : Nat) (old : Array Value) (oldc : List CV), ¬ len + m ≤ cap → roomy (len + m) ei.bytes = true →
      (∀ j : Nat, (Builtin.firstCells ei.size len (.slice base len cap)).run P { w with drawn := j } = .ok old { w with drawn := j }) → LRel ρ oldc old.toList → old.size = len * ei.size → ∀ fz : Nat × Nat,
      ∃ ρ' w' v', (Builtin.append_ #[s, t2] ty #[.slice base len cap, x]).run P w = .ok v' w' ∧ Step KR ρ h.get K k w ρ' (upd h.get k (some (.cells (oldc ++ new) el fz))) K (k + 1) w' ∧
        VRel ρ' (.slice k 0 (len + m) (len + m) (some ei.size)) v' := by
    intro base len cap old oldc hneed hroom hold hol hos fz
    obtain ⟨c, hcc, hrun⟩ := run_append_new (ty := ty) hu hsz hi0 hzv h2 ha hneed (by rw [hi2]; exact hroom) hold
    refine ⟨ext ρ k (w.heap.size, (old ++ us ++ Builtin.zeroCells zv.cells (c - (len + m))).size), _, _, hrun, ?_, ?_⟩
    · refine (Step.alloc hK hrel (x := .cells (old ++ us ++ Builtin.zeroCells zv.cells (c - (len + m))) el) (m := (old ++ us ++ Builtin.zeroCells zv.cells (c - (len + m))).size) (o := .cells (oldc ++ new) el fz) ?_ _ rfl rfl rfl rfl)
      refine orel_grown el fz (hol.append hnew) ?_ ?_
      · simp only [Array.toList_append]
        rw [List.take_append_of_le_length (Nat.le_refl _), List.take_length]
      · simp
    · refine .sliceE _ _ _ _ _ _ _ _ (ext_same _ _ _) hcc ?_
      simp only [Array.size_append, zeroCells_size, hzs, hos, hul, Nat.zero_add, ← Nat.add_mul]
      rw [show len + m + (c - (len + m)) = c by omega]
      exact Nat.le_refl _
  cases sv <;> simp only [appendTo, reduceCtorEq] at hf
  case nilslice =>
    rw [hs.nilslice_inv]
    rw [nat_beq_eq] at hf
    by_cases h0 : m = 0
    · simp only [h0, decide_true, cnd_true, Option.some.injEq, Prod.mk.injEq] at hf
      obtain ⟨rfl, rfl, rfl⟩ := hf
      refine ⟨ρ, w, .slice none 0 0, ?_, Step.refl hrel, .nilslice⟩
      rw [run_append_in hu hsz hi0 h2 ha (by omega), h0]
      rfl
    · simp only [h0, decide_false, cnd_false] at hf
      obtain ⟨f1, f2⟩ := cnd_some.1 hf
      simp only [newSlice, Option.some.injEq, Prod.mk.injEq] at f2
      obtain ⟨rfl, rfl, rfl⟩ := f2
      have := grow none 0 0 #[] [] (by omega) (by simpa using f1) (fun j => by simp [Builtin.firstCells]) (.nil ρ) (by simp) (0, 0)
      rw [get_set_fun]
      simpa using this
  case emptysl =>
    obtain ⟨a, c, rfl⟩ := hs.emptysl_inv
    obtain ⟨h0, f1⟩ := cnd_some.1 hf
    rw [nat_beq_eq, decide_eq_true_eq] at h0
    simp only [Option.some.injEq, Prod.mk.injEq] at f1
    obtain ⟨rfl, rfl, rfl⟩ := f1
    refine ⟨ρ, w, .slice (some a) 0 c, ?_, Step.refl hrel, .emptysl _ _⟩
    rw [run_append_in hu hsz hi0 h2 ha (by omega), h0]
    have : us = #[] := by apply Array.eq_empty_of_size_eq_zero; rw [hul, h0, Nat.zero_mul]
    rw [this]
    rfl
  case slice b o len cap ex =>
    obtain ⟨r, mm, c', rfl, hb, hcap, hex, hroom'⟩ := hs.slice_inv
    -- in place
    have place : ∀ h1 : Heap, len + m ≤ c' → storeAt h b (o + len * ei.size) new = some h1 → ∃ w', (Builtin.append_ #[s, t2] ty #[.slice (some ⟨r, o, none⟩) len c', x]).run P w = .ok (.slice (some ⟨r, o, none⟩) (len + m) c') w' ∧ Step KR ρ h.get K k w ρ h1.get K k w' := by
      intro h1 hneed hst
      obtain ⟨w', hw, hstep⟩ := storeAt_rel (P := P) hrel hnew hb hst
      refine ⟨w', ?_, hstep⟩
      rw [run_append_in hu hsz hi0 h2 ha hneed]
      simp only [addr_add, hw, Result.andThen_ok]
    rw [nat_beq_eq] at hf
    by_cases h0 : m = 0
    · simp only [h0, decide_true, cnd_true] at hf
      obtain ⟨f1, f2⟩ := cnd_some.1 hf
      rw [Nat.ble_eq] at f1
      simp only [Option.some.injEq, Prod.mk.injEq] at f2
      obtain ⟨rfl, rfl, rfl⟩ := f2
      refine ⟨ρ, w, .slice (some ⟨r, o, none⟩) len c', ?_, Step.refl hrel, hs⟩
      rw [run_append_in hu hsz hi0 h2 ha (by omega), h0]
      have : us = #[] := by apply Array.eq_empty_of_size_eq_zero; rw [hul, h0, Nat.zero_mul]
      rw [this]
      rfl
    simp only [h0, decide_false, cnd_false] at hf
    cases hle : Nat.ble (len + m) cap with
    | true =>
      rw [hle, cnd_true] at hf
      rw [Nat.ble_eq] at hle
      simp only [Option.map_eq_some_iff, Prod.mk.injEq] at hf
      obtain ⟨h1, hst, rfl, rfl, rfl⟩ := hf
      obtain ⟨w', hw, hstep⟩ := place h1 (by omega) hst
      refine ⟨ρ, w', _, hw, hstep, ?_⟩
      cases ex with
      | none => rw [hex rfl]; exact .slice _ _ _ _ _ _ hb
      | some s => exact .sliceE _ _ _ _ _ _ _ _ hb hcap (hroom' s rfl)
    | false =>
      rw [hle, cnd_false] at hf
      have hgt : ¬ len + m ≤ cap := by rw [← Nat.ble_eq]; simp [hle]
      obtain ⟨f1, f2⟩ := cnd_some.1 hf
      cases ex with
      | none =>
        obtain rfl := hex rfl
        obtain ⟨old, f3, f4⟩ := rec_some.1 f2
        simp only [newSlice, Option.some.injEq, Prod.mk.injEq] at f4
        obtain ⟨rfl, rfl, rfl⟩ := f4
        obtain ⟨ou, g1, g2⟩ := firstCells_rel' (P := P) hrel (fun _ _ h => h) hs rfl (Nat.le_refl _) f3 hn
        have hol : ou.size = len * ei.size := by
          obtain ⟨vs, el', fz, e2, e3⟩ := asCells_some f3
          obtain ⟨e4, e5⟩ := cnd_some.1 e3
          rw [lenGe_eq, decide_eq_true_eq] at e4
          simp only [Option.some.injEq, takeL_eq, dropL_eq] at e5
          have := g2.1
          rw [← e5] at this
          simp at this
          omega
        have := grow _ len c' ou old hgt f1 g1 g2 hol (0, 0)
        rw [get_set_fun, appL_eq]
        exact this
      | some s' =>
        obtain ⟨f3, f4⟩ := cnd_some.1 f2
        rw [nat_beq_eq, decide_eq_true_eq] at f3
        subst f3
        obtain ⟨e1, f5⟩ := cnd_some.1 f4
        rw [nat_beq_eq, decide_eq_true_eq] at e1
        subst e1
        obtain ⟨vs, el1, fz, e2, f6⟩ := asCells_some f5
        obtain ⟨e3, f7⟩ := cnd_some.1 f6
        rw [nat_beq_eq, decide_eq_true_eq] at e3
        obtain rfl : el1 = el := e3
        obtain ⟨e4, f8⟩ := cnd_some.1 f7
        obtain ⟨e5, f9⟩ := cnd_some.1 f8
        rw [Bool.and_eq_true, lenGe_eq, decide_eq_true_eq] at e5
        obtain ⟨e5, e6⟩ := e5
        simp only [newSlice, Option.some.injEq, Prod.mk.injEq, takeL_eq, appL_eq] at f9
        obtain ⟨rfl, rfl, rfl⟩ := f9
        obtain ⟨r', m', c, fz', g1, g2, g3, g4, g5, g6⟩ := hrel.cells e2
        rw [hb] at g1
        simp only [Option.some.injEq, Prod.mk.injEq] at g1
        obtain ⟨rfl, rfl⟩ := g1
        have hroom2 := hroom' _ rfl
        rw [get_set_fun, get_set_fun]
        by_cases hneed : len + m ≤ c'
        · -- it stays where it is
          have hmul : (len + m) * ei.size ≤ c' * ei.size := Nat.mul_le_mul_right _ hneed
          rw [Nat.add_mul] at hmul
          have hun : unfrozen fz (len * ei.size) us.toList.length = true := by
            simp only [unfrozen, Bool.or_eq_true, Nat.ble_eq] at e4 ⊢
            rcases e4 with e4 | e4
            · exact Or.inl (Or.inr e4)
            · exact Or.inr e4
          have hst := run_storeCells_at (P := P) r (0 + len * ei.size) el1 fz' us.toList 0 c w g2 (by simp; omega) (oneCells_rel hnew e6) (by
            intro j hj
            have := unfrozen_rel g6 hun (by simp; omega) j hj
            simpa using this)
          refine ⟨ext ρ k (r, mm), _, _, by rw [run_append_in hu hsz hi0 h2 ha hneed]; simp only [addr_add, hst, Result.andThen_ok]; rfl, ?_, ?_⟩
          · refine Step.move hK hrel e2 hb g2 (x' := .cells (c.toList.take (0 + len * ei.size + 0) ++ us.toList ++ c.toList.drop (0 + len * ei.size + 0 + us.toList.length)).toArray el1 fz') ?_ _ ?_ rfl rfl rfl
            · refine ⟨rfl, by simp; omega, by simp; omega, ?_, g6⟩
              have l1 : (vs.take (len * ei.size) ++ new).length = len * ei.size + us.size := by simp; omega
              rw [l1]
              have : (List.take (len * ei.size + us.size) (c.toList.take (0 + len * ei.size + 0) ++ us.toList ++ c.toList.drop (0 + len * ei.size + 0 + us.toList.length))) = c.toList.take (len * ei.size) ++ us.toList := by
                rw [List.take_append_of_le_length (by simp; omega), List.take_of_length_le (by simp; omega)]
                simp
              show LRel ρ _ (List.take (len * ei.size + us.size) _)
              rw [this]
              have := g5.take (len * ei.size)
              rw [List.take_take, Nat.min_eq_left e5] at this
              exact this.append hnew
            · intro q
              by_cases hq : q = r
              · subst hq; rw [setRow_heap w q c _ el1 fz' g2, if_pos rfl]
              · rw [setRow_other w r q _ hq, if_neg hq]
          · exact .sliceE _ _ _ _ _ _ _ _ (ext_same _ _ _) hneed (by simpa using hroom2)
        · -- a new row
          have hfc : ∀ j : Nat, (Builtin.firstCells ei.size len (.slice (some ⟨r, 0, none⟩) len c')).run P { w with drawn := j } = .ok (c.toList.take (len * ei.size)).toArray { w with drawn := j } := by
            intro j
            have := run_cells (P := P) (w := { w with drawn := j }) (o := 0) (n := len * ei.size) g2 (by omega)
            simpa [Builtin.firstCells] using this
          obtain ⟨ρ', w', v', q1, q2, q3⟩ := grow _ len c' _ (vs.take (len * ei.size)) hneed f1 hfc (by
            have := g5.take (len * ei.size)
            rw [List.take_take, Nat.min_eq_left e5] at this
            simpa using this) (by simp; omega) fz
          refine ⟨ρ', w', v', q1, ?_, q3⟩
          have := q2.trans (Step.drop q2.rel b)
          have hbk : b ≠ k := by
            rintro rfl
            rw [hrel.fresh _ (Nat.le_refl _)] at hb
            cases hb
          have e : upd (upd h.get k (some (.cells (vs.take (len * ei.size) ++ new) el1 fz))) b none = upd (upd h.get b none) k (some (.cells (vs.take (len * ei.size) ++ new) el1 fz)) := by
            funext c
            unfold upd
            by_cases h1 : c = b
            · have : c ≠ k := by rw [h1]; exact hbk
              simp [h1, hbk]
            · simp [h1]
          rw [e] at this
          exact this

end
end Go.Cm

/-
  The C machine, part U: append's call; text to bytes.
-/
namespace Go.Cm

section
variable {P : Program} {C : Cx}

theorem compAppend_sound (hC : CxOk P C) {c : Call} (hc : c.callee = .builtin .append) {s t2 : TypeId} {p x : Operand} (ht : c.argTypes.toList = [s, t2]) (hx : c.args.toList = [p, x]) {g : CAny}
    (hg : compAppend C s t2 p x = some g) : ∃ f, g = .e f ∧ ESound P C (.call c) f := by
  unfold compAppend at hg
  cases hs : sliceOf C s with
  | none => simp [hs] at hg
  | some q => cases hxi : C.ti t2 with
    | none => simp [hs, hxi] at hg
    | some xi => cases hp : opd C p with
      | none => simp [hs, hxi, hp] at hg
      | some p' => cases hxx : opd C x with
        | none => simp [hs, hxi, hp, hxx] at hg
        | some x' =>
          obtain ⟨el, n, by', z⟩ := q
          simp only [hs, hxi, hp, hxx] at hg
          obtain ⟨i, ei, hi, hiu, he, hz, rfl, hn, rfl⟩ := sliceOf_some hs
          have hu := hiu ▸ hC.under hi
          have h2 := hC.under hxi
          have hargs := toList_two hx
          have htys := toList_two ht
          have fin : ∀ (o : Oper) (a : Act) (w : World), o.op = .call c → ∀ X w', (Builtin.append_ #[s, t2] o.type #[a.eval p, a.eval x]).run P w = .ok X w' → (execOp a.eval o).run P w = .ok (.value X) w' := by
            intro o a w ho X w' hw
            rw [exec_builtin ho hc, hargs, htys]
            simp [builtin, hw]
          have seq : ∀ d : TypeDesc, xi.under = d → ((∃ e, d = .slice e) ∨ d = .string) → ESound P C (.call c) (eAppend el ei.size ei.bytes p' x') := by
            intro d hd hdd KR hKR S ρ e a w o h Kc k v h' k' hsr hgr hR ho hrel hf
            rw [call_operands hc] at hR
            have hrp := opd_rel hsr hgr hR (x := p) (by rw [hargs]; simp) hp
            have hrx := opd_rel hsr hgr hR (x := x) (by rw [hargs]; simp) hxx
            obtain ⟨m, hm, f1⟩ := rec_some.1 hf
            obtain ⟨new, f2, f3⟩ := rec_some.1 f1
            obtain ⟨us, g1, g2⟩ := firstCells_rel' (P := P) hrel (fun _ _ h => h) hrx hm (Nat.le_refl _) f2 hn
            have hlen : new.length = m * ei.size := firstCells_len hm (Nat.le_refl _) f2
            obtain ⟨ρ', w', v', q1, q2, q3⟩ := appendTo_sound (ty := o.type) hC hKR hrel hu he hz hn h2 g2 hlen (Or.inl ⟨hd ▸ hdd, fun j => lenOf_rel hrx hm _, g1⟩) hrp f3
            exact ⟨ρ', w', _, fin o a w ho _ _ q1, q2, Or.inl ⟨_, rfl, q3⟩⟩
          cases hd : xi.under <;> rw [hd] at hg <;> simp only [reduceCtorEq, Option.some.injEq] at hg <;> subst hg
          case int k1 =>
            refine ⟨_, rfl, ?_⟩
            intro KR hKR S ρ e a w o h Kc k v h' k' hsr hgr hR ho hrel hf
            rw [call_operands hc] at hR
            have hrp := opd_rel hsr hgr hR (x := p) (by rw [hargs]; simp) hp
            have hrx := opd_rel hsr hgr hR (x := x) (by rw [hargs]; simp) hxx
            obtain ⟨kk, m, e1, f1⟩ := asIdx_some.1 hf
            obtain ⟨f2, f3⟩ := cnd_some.1 f1
            rw [e1] at hrx
            have e2 := hrx.int_inv
            obtain ⟨zc, hzc, rfl, hzl⟩ := zero_cells hz
            obtain ⟨infz, zv, hzi, hzv0, hzr⟩ := hC.zero_some he hzc
            have hzv : ∀ w, (zeroValue el).run P w = .ok zv w := fun w => by simp [zeroValue, typeInfo, hzi, hzv0]
            have hzs : zv.cells.size = ei.size := by have := (hzr ρ).cells.1; simp at this; omega
            simp only [roomy, Bool.and_eq_true, Nat.ble_eq] at f2
            have hb : m * ei.bytes ≤ 281474976710656 := Nat.le_trans (Nat.mul_le_mul_right _ (by omega)) f2.1
            have hcop := copies_arr (hzr ρ).cells m
            obtain ⟨ρ', w', v', q1, q2, q3⟩ := appendTo_sound (ty := o.type) (x := a.eval x) (us := Builtin.zeroCells zv.cells m) hC hKR hrel hu he hz hn h2 (new := copies zc.cells m) hcop (by
              have := hcop.1
              rw [this]
              show (Builtin.zeroCells zv.cells m).toList.length = _
              simp [zeroCells_size, hzs]) (Or.inr ⟨⟨k1, hd⟩, ⟨kk, e2⟩, hb, by omega, zv, hzv, by
                by_cases h0 : m * ei.size = 0
                · simp only [h0, if_true]
                  apply Array.eq_empty_of_size_eq_zero
                  rw [zeroCells_size, hzs, h0]
                · simp only [h0, if_false]⟩) hrp f3
            exact ⟨ρ', w', _, fin o a w ho _ _ q1, q2, Or.inl ⟨_, rfl, q3⟩⟩
          case string => exact ⟨_, rfl, seq _ hd (Or.inr rfl)⟩
          case slice e => exact ⟨_, rfl, seq _ hd (Or.inl ⟨e, rfl⟩)⟩

/-! Text to bytes. -/

theorem bytesWorld_heap (w : World) (e : TypeId) (s : ByteArray) : (Lib.bytesWorld w e s).heap = w.heap.push (.cells (Lib.bytesCells w e s) e ((Lib.bytesCells w e s).size, (Lib.bytesCells w e s).size + 1)) := by
  apply Array.ext_getElem?
  intro i
  by_cases h : i < w.heap.size
  · rw [Lib.bytesWorld_at_old w e s i h, Array.getElem?_push_lt h, Array.getElem?_eq_getElem h]
  · by_cases h2 : i = w.heap.size
    · subst h2
      rw [Lib.bytesWorld_at_new]
      simp
    · rw [Array.getElem?_eq_none (by rw [Lib.bytesWorld_size]; omega), Array.getElem?_eq_none (by simp; omega)]

theorem strBytes_sound {s t el : TypeId} {x : Operand} {y : COpd} (hs' : P.underlying s = some .string) (ht : P.underlying t = some (.slice el)) (he : P.underlying el = some (.int .u8)) (hx : opd C x = some y) :
    ESound P C (.convert s t x) (eStrBytes el y) := by
  intro KR hKR S ρ e a w o h Kc k v h' k' hsr hgr hR ho hrel hf
  have hr := opd_rel hsr hgr hR (by simp [Op.operands]) hx
  obtain ⟨l, e1, f1⟩ := asStr_some.1 hf
  rw [e1] at hr
  obtain ⟨b, e2, rfl⟩ := hr.str_inv
  simp only [Option.some.injEq, Prod.mk.injEq] at f1
  obtain ⟨rfl, rfl, rfl⟩ := f1
  have hrun := Lib.run_convert_string_bytes (P := P) w s t el b hs' ht he
  have hc : b.size ≤ grownCap w b.size 0 el := Nat.le_add_right _ _
  have hbs : b.data.size = b.size := rfl
  have hcs : (Lib.bytesCells w el b).size = grownCap w b.size 0 el := by
    simp [Lib.bytesCells]; omega
  refine ⟨ext ρ k (w.heap.size, grownCap w b.size 0 el), Lib.bytesWorld w el b, .value (.slice (some ⟨w.heap.size, 0, none⟩) b.size (grownCap w b.size 0 el)), ?_, ?_, Or.inl ⟨_, rfl, ?_⟩⟩
  · unfold execOp
    rw [ho]
    simp only [e2, Sem.run_bind, hrun, Result.andThen_ok]
    rfl
  · rw [get_set_fun]
    refine Step.alloc hKR hrel (x := .cells (Lib.bytesCells w el b) el ((Lib.bytesCells w el b).size, (Lib.bytesCells w el b).size + 1)) ?_ _ (bytesWorld_heap w el b) rfl rfl rfl
    have hl : (mapL byteCell (b.data.toList.map (·.toNat))).length = b.size := by rw [mapL_eq]; simp
    refine ⟨rfl, hcs, by omega, ?_, Or.inl ⟨rfl, fun i hi h => by simp only [hcs] at h; omega⟩⟩
    rw [hl]
    have : (Lib.bytesCells w el b).toList.take b.size = (b.data.toList.map (·.toNat)).map fun c => Value.int .u8 (Int.ofNat c) := by
      unfold Lib.bytesCells
      rw [Array.toList_append, List.take_append_of_le_length (by simp), List.take_of_length_le (by simp), Array.toList_map, List.map_map]
      rfl
    rw [this, mapL_eq]
    exact LRel.map fun c _ => .int _ _
  · rw [lenL_eq]
    have : (b.data.toList.map (·.toNat)).length = b.size := by simp
    rw [this]
    exact .sliceE _ _ _ _ _ _ _ _ (ext_same _ _ _) hc (by omega)

end
end Go.Cm

/-
  The C machine, part V: clear, unsafe.String.
-/
namespace Go.Cm

section
variable {P : Program} {C : Cx}

theorem clear_sound (hC : CxOk P C) {c : Call} (hc : c.callee = .builtin .clear) {t : TypeId} {x : Operand} (ht : c.argTypes.toList = [t]) (hx : c.args.toList = [x]) {x' : COpd} {el n by' : Nat} {z : List CV} (hs' : sliceOf C t = some (el, n, by', z))
    (hxx : opd C x = some x') : ESound P C (.call c) (eClear z x') := by
  intro KR hKR S ρ e a w o h Kc k v h' k' hs hg hR ho hrel hf
  rw [call_operands hc] at hR
  have hargs := toList_one hx
  have htys := toList_one ht
  have hrx := opd_rel hs hg hR (x := x) (by rw [hargs]; simp) hxx
  obtain ⟨i, ei, hi, hu, he, hz, rfl, hn, rfl⟩ := sliceOf_some hs'
  have hu := hu ▸ hC.under hi
  have fin : ∀ X w', (Builtin.clear_ #[t] o.type #[a.eval x]).run P w = .ok X w' → (execOp a.eval o).run P w = .ok (.value X) w' := by
    intro X w' hw
    rw [exec_builtin ho hc, hargs, htys]
    simp [builtin, hw]
  obtain ⟨zc, hzc, rfl, hzl⟩ := zero_cells hz
  obtain ⟨infz, zv, hzi, hzv0, hzr⟩ := hC.zero_some he hzc
  have hzv : ∀ w, (zeroValue el).run P w = .ok zv w := fun w => by simp [zeroValue, typeInfo, hzi, hzv0]
  simp only [eClear] at hf
  generalize ev e x' = cv at hrx hf
  cases cv <;> simp only [clearCV, reduceCtorEq, Option.some.injEq, Prod.mk.injEq] at hf
  case nilslice =>
    obtain ⟨rfl, rfl, rfl⟩ := hf
    refine ⟨ρ, w, _, fin undef w ?_, Step.refl hrel, Or.inl ⟨_, rfl, VRel.undef ρ⟩⟩
    rw [hrx.nilslice_inv]
    simp [Builtin.clear_, run_underlying hu]
    rfl
  case emptysl =>
    obtain ⟨rfl, rfl, rfl⟩ := hf
    obtain ⟨b, cc, e1⟩ := hrx.emptysl_inv
    refine ⟨ρ, w, _, fin undef w ?_, Step.refl hrel, Or.inl ⟨_, rfl, VRel.undef ρ⟩⟩
    rw [e1]
    simp [Builtin.clear_, run_underlying hu]
    rfl
  case slice b q len cap ex =>
    obtain ⟨r, mm, c', e1, hb, _⟩ := hrx.slice_inv
    rw [nat_beq_eq] at hf
    by_cases h0 : len = 0
    · subst h0
      simp only [decide_true, cnd_true, Option.some.injEq, Prod.mk.injEq] at hf
      obtain ⟨rfl, rfl, rfl⟩ := hf
      refine ⟨ρ, w, _, fin undef w ?_, Step.refl hrel, Or.inl ⟨_, rfl, VRel.undef ρ⟩⟩
      rw [e1]
      simp [Builtin.clear_, run_underlying hu]
      rfl
    · simp only [h0, decide_false, cnd_false, Option.map_eq_some_iff, Prod.mk.injEq] at hf
      obtain ⟨h2, hst, rfl, rfl, rfl⟩ := hf
      have hcop : LRel ρ (copies zc.cells len) (Builtin.zeroCells zv.cells len).toList := copies_arr (hzr ρ).cells len
      obtain ⟨w', hw, hstep⟩ := storeAt_rel (P := P) hrel hcop hb hst
      refine ⟨ρ, w', _, fin undef w' ?_, hstep, Or.inl ⟨_, rfl, VRel.undef ρ⟩⟩
      obtain ⟨l, rfl⟩ : ∃ l, len = l + 1 := ⟨len - 1, by omega⟩
      rw [e1]
      simp [Builtin.clear_, run_underlying hu, hzv, hw]
      rfl

theorem liesAt_from {e : TypeId} (hc : P.cellsOf e = 1) (count off n : Nat) (hn : off + n ≤ count) : liesAt P P.depth e count off e n = true := by
  have hd : P.depth = (2 * (P.types.size + Made.depth) + 1) + 1 := rfl
  rw [hd]
  simp only [liesAt, Bool.or_eq_true]
  left
  rw [hd]
  simp [rowAt, hc, hn, sameLayout, Nat.mod_one]

/-- Bytes of a row, as a text. -/
theorem run_loadBytes_at {ρ : Ren} {w : World} {r o n : Nat} {c : Array Value} {el : Nat} {fz : Nat × Nat} (hg : w.heap[r]? = some (.cells c el fz)) {vs : List CV} (hl : LRel ρ vs ((c.toList.drop o).take n)) {s : List Nat} (hs : byteL vs = some s) (hn : o + n ≤ c.size) :
    ∃ b : ByteArray, (loadBytes ⟨r, o, none⟩ .empty n).run P w = .ok b w ∧ s = b.data.toList.map (·.toNat) := by
  obtain ⟨h1, h2⟩ := byteL_rel hl hs
  have hlen : ((c.toList.drop o).take n).length = n := by simp; omega
  have hsl : s.length = n := by
    have := congrArg List.length h1
    simp at this
    omega
  let l : List UInt8 := s.map fun x => x.toUInt8
  have hll : l.length = n := by simp [l, hsl]
  refine ⟨⟨(ByteArray.empty).data ++ l.toArray⟩, ?_, ?_⟩
  · have := Lib.run_loadBytes (P := P) w l ⟨r, o, none⟩ .empty (by
      intro j x hx
      rw [addr_add, cell_at hg]
      obtain ⟨hj, hx'⟩ := List.getElem?_eq_some_iff.1 hx
      have hj' : j < n := by omega
      have hjs : j < s.length := by omega
      have e1 : ((c.toList.drop o).take n)[j]? = some (Value.int .u8 (Int.ofNat s[j])) := by
        rw [h1]
        simp [hjs]
      rw [List.getElem?_take, if_pos hj', List.getElem?_drop] at e1
      rw [← Array.getElem?_toList, e1]
      have e2 : x = s[j].toUInt8 := by rw [← hx']; simp [l]
      rw [e2]
      have := h2 s[j] (List.getElem_mem hjs)
      have e3 : (s[j].toUInt8).toNat = s[j] := by simp; omega
      rw [e3]
      rfl)
    rw [hll] at this
    exact this
  · simp only [l]
    have : (ByteArray.empty).data = #[] := rfl
    rw [this]
    simp only [Array.empty_append, List.map_map]
    conv => lhs; rw [← List.map_id s]
    apply List.map_congr_left
    intro x hx
    have := h2 x hx
    simp
    omega

theorem freeze_heap (w : World) (r o n : Nat) {c : Array Value} {el lo hi : Nat} (hg : w.heap[r]? = some (.cells c el (lo, hi))) (hn : n ≠ 0) (k : Nat) :
    (w.freeze ⟨r, o, none⟩ n).heap[k]? = if k = r then some (.cells c el (if lo == hi then (o, o + n) else (min lo o, max hi (o + n)))) else w.heap[k]? := by
  simp only [World.freeze, hn, if_false, Array.getElem?_modify]
  by_cases h : k = r
  · subst h
    simp [hg]
  · simp [h, Ne.symm h]

theorem fz_freeze {m q n lo hi : Nat} {fz : Nat × Nat} (h : FzRel m fz (lo, hi)) (hle : fz.1 ≤ fz.2) (hn : n ≠ 0) :
    FzRel m (freezeFz fz q n) (if lo == hi then (q, q + n) else (min lo q, max hi (q + n))) := by
  obtain ⟨a, b⟩ := fz
  simp only at hle
  refine Or.inr (Or.inr ?_)
  unfold freezeFz
  rcases h with ⟨h, _⟩ | h | ⟨h1, h2, h3⟩
  · simp only [Prod.mk.injEq] at h
    omega
  · simp only at h
    subst h
    by_cases e : a = b
    · simp [e]; omega
    · simp [e]; omega
  · simp only at h1 h2 h3
    have e : ¬ a = b := by omega
    by_cases e2 : lo = hi
    · simp [e, e2]; omega
    · simp [e, e2]; omega

theorem unsafeString_sound (hC : CxOk P C) {c : Call} (hc : c.callee = .builtin .unsafeString) {t t2 el : TypeId} {p x : Operand} (ht : c.argTypes.toList = [t, t2]) (hx : c.args.toList = [p, x]) {p' x' : COpd} (hu : P.underlying t = some (.pointer el)) {ei : TI} (he : C.ti el = some ei) (hsz : ei.size = 1)
    (hp : opd C p = some p') (hxx : opd C x = some x') : ESound P C (.call c) (eUnsafeString el p' x') := by
  intro KR hKR S ρ e a w o h Kc k v h' k' hs hg hR ho hrel hf
  rw [call_operands hc] at hR
  have hargs := toList_two hx
  have htys := toList_two ht
  have hrp := opd_rel hs hg hR (x := p) (by rw [hargs]; simp) hp
  have hrx := opd_rel hs hg hR (x := x) (by rw [hargs]; simp) hxx
  have hcell : P.cellsOf el = 1 := by
    obtain ⟨inf, g1, g2, g3, g4, _⟩ := hC.ti el ei he
    simp [Program.cellsOf, g1, g3, hsz]
  have fin : ∀ X w', (Builtin.unsafeString_ #[t, t2] o.type #[a.eval p, a.eval x]).run P w = .ok X w' → (execOp a.eval o).run P w = .ok (.value X) w' := by
    intro X w' hw
    rw [exec_builtin ho hc, hargs, htys]
    simp [builtin, hw]
  obtain ⟨kk, n, e1, f0⟩ := asIdx_some.1 hf
  obtain ⟨hbig, f1⟩ := cnd_some.1 f0
  rw [Nat.ble_eq] at hbig
  rw [e1] at hrx
  have e2 := hrx.int_inv
  have hn0 : ¬ ((n : Int) < 0) := by omega
  generalize ev e p' = cv at hrp f1
  have hnb' : ¬ ((9223372036854775807 : Int) < n) := by omega
  have hmax : IntKind.i64.max = 9223372036854775807 := rfl
  have dnone : Builtin.unsafeString_ #[t, t2] o.type #[.pointer none, .int kk (Int.ofNat n)] = (do
      let n ← Go.asInt (.int kk (Int.ofNat n))
      if n < 0 then runtimePanic (.error "unsafe.String: len out of range")
      if n > IntKind.i64.max then unsupported (.unsafePointer "String: a length above the largest int")
      if n = 0 then pure (.string .empty)
      else runtimePanic (.error "unsafe.String: ptr is nil and len is not zero")) := rfl
  have dsome : ∀ ad : Addr, Builtin.unsafeString_ #[t, t2] o.type #[.pointer (some ad), .int kk (Int.ofNat n)] = (do
      let n ← Go.asInt (.int kk (Int.ofNat n))
      if n < 0 then runtimePanic (.error "unsafe.String: len out of range")
      if n > IntKind.i64.max then unsupported (.unsafePointer "String: a length above the largest int")
      if n = 0 then pure (.string .empty)
      else if ← variablesAt ad (← elemOf t) n.toNat then do
        let s ← loadBytes ad .empty n.toNat
        freeze ad n.toNat
        pure (.string s)
      else unsupported (.unsafePointer "String: not so many bytes at ptr")) := fun _ => rfl
  cases cv <;> simp only [strAt, reduceCtorEq] at f1
  case nilptr =>
    obtain ⟨h0, f2⟩ := cnd_some.1 f1
    rw [nat_beq_eq, decide_eq_true_eq] at h0
    subst h0
    simp only [Option.some.injEq, Prod.mk.injEq] at f2
    obtain ⟨rfl, rfl, rfl⟩ := f2
    refine ⟨ρ, w, _, fin (.string .empty) w ?_, Step.refl hrel, Or.inl ⟨_, rfl, .str .empty⟩⟩
    rw [e2, hrp.nilptr_inv, dnone]
    simp [Go.asInt, run_asIntOf, hmax]
  case ptr b q =>
    obtain ⟨r, m, e3, hb⟩ := hrp.ptr_inv
    rw [nat_beq_eq] at f1
    by_cases h0 : n = 0
    · subst h0
      simp only [decide_true, cnd_true, Option.some.injEq, Prod.mk.injEq] at f1
      obtain ⟨rfl, rfl, rfl⟩ := f1
      refine ⟨ρ, w, _, fin (.string .empty) w ?_, Step.refl hrel, Or.inl ⟨_, rfl, .str .empty⟩⟩
      rw [e2, e3, dsome]
      simp [Go.asInt, run_asIntOf, hmax]
    · simp only [h0, decide_false, cnd_false] at f1
      obtain ⟨vs, el', fz, g1, f2⟩ := asCells_some f1
      obtain ⟨g2, f3⟩ := cnd_some.1 f2
      rw [nat_beq_eq, decide_eq_true_eq] at g2
      obtain ⟨g3, f4⟩ := cnd_some.1 f3
      rw [lenGe_eq, decide_eq_true_eq] at g3
      obtain ⟨g4, f5⟩ := cnd_some.1 f4
      rw [Nat.ble_eq] at g4
      obtain ⟨s, g5, f6⟩ := rec_some.1 f5
      simp only [Option.some.injEq, Prod.mk.injEq, takeL_eq, dropL_eq] at f6 g5
      obtain ⟨rfl, rfl, rfl⟩ := f6
      obtain ⟨r', m', c0, fz', k1, k2, k3, k4, k5, k6⟩ := hrel.cells g1
      rw [hb] at k1
      simp only [Option.some.injEq, Prod.mk.injEq] at k1
      obtain ⟨rfl, rfl⟩ := k1
      have hl := (k5.drop q).take n
      rw [List.drop_take, List.take_take, Nat.min_eq_left (by omega)] at hl
      obtain ⟨bs, hload, hsb⟩ := run_loadBytes_at (P := P) k2 hl g5 (by omega)
      obtain ⟨lo, hi⟩ := fz'
      have hsh : w.shape? r = some (el, c0.size) := by simp [World.shape?, k2, g2]
      have hlies := liesAt_from (P := P) hcell (c0.size / P.cellsOf el) q n (by rw [hcell, Nat.div_one]; omega)
      refine ⟨ρ, w.freeze ⟨r, q, none⟩ n, _, fin (.string bs) _ ?_, ?_, Or.inl ⟨_, rfl, hsb ▸ .str bs⟩⟩
      · rw [e2, e3, dsome]
        simp [Go.asInt, run_asIntOf, hmax, hnb', hn0, h0, variablesAt, hsh, elemOf, run_underlying hu, hlies, hload, freeze]
        rfl
      · rw [get_set_fun]
        refine Step.write hrel g1 hb k2 (x' := .cells c0 el' (if lo == hi then (q, q + n) else (min lo q, max hi (q + n)))) ?_ _ (fun k => freeze_heap w r q n k2 h0 k) ?_ ?_ ?_
        · exact ⟨rfl, k3, k4, k5, fz_freeze k6 g4 h0⟩
        all_goals
          simp only [World.freeze, h0, if_false]

/-! Pointers as unsafe ones. -/

theorem run_seenAt {w : World} {r o : Nat} {c : Array Value} {el : Nat} {fz : Nat × Nat} (hg : w.heap[r]? = some (.cells c el fz)) : (Conv.seenAt ⟨r, o, none⟩).run P w = .ok ⟨r, o, none⟩ w := by
  have hsh : w.shape? r = some (el, c.size) := by simp [World.shape?, hg]
  simp [Conv.seenAt, viewAt, hsh]

theorem toUnsafe_sound (hC : CxOk P C) {s t el : TypeId} {x : Operand} {y : COpd} {ei : TI} {n : Nat} (hs' : P.underlying s = some (.pointer el)) (ht : P.underlying t = some .unsafePointer) (he : C.ti el = some ei) (hn : ei.size = n + 1) (hx : opd C x = some y) :
    RSound P C (.convert s t x) (rToUnsafe y) := by
  intro KR S ρ e a w v o h H K k hs hg hR ho hrel hsub hf
  have hr := opd_rel hs hg hR (by simp [Op.operands]) hx
  have fin : ∀ X, (Conv.unsafePointer s t (a.eval x)).run P w = .ok X w → (∃ p, a.eval x = .pointer p) → Yields P (execOp a.eval o) w X := by
    rintro X hX ⟨p, hp⟩
    refine .now ?_
    unfold execOp
    rw [ho]
    rw [hp] at hX
    simp [convert, run_underlying hs', run_underlying ht, hX, hp]
  simp only [rToUnsafe] at hf
  generalize ev e y = cv at hf hr
  unfold toUnsafe at hf
  split at hf
  · simp only [Option.some.injEq] at hf
    subst hf
    have e1 := hr.nilptr_inv
    refine ⟨.pointer none, fin _ ?_ ⟨_, e1⟩, .nilptr⟩
    rw [e1]
    simp [Conv.unsafePointer, run_underlying hs', run_underlying ht]
  · rename_i b q
    obtain ⟨vs, el', fz, e2, f2⟩ := asCells_some hf
    obtain ⟨f3, f4⟩ := cnd_some.1 f2
    rw [lenGe_eq, decide_eq_true_eq] at f3
    simp only [Option.some.injEq] at f4
    subst f4
    obtain ⟨r, m, e3, hb⟩ := hr.ptr_inv
    obtain ⟨r', m', c, fz', g1, g2, g3, g4, _⟩ := hrel.cells (hsub _ _ e2)
    rw [hb] at g1
    simp only [Option.some.injEq, Prod.mk.injEq] at g1
    obtain ⟨rfl, rfl⟩ := g1
    refine ⟨.pointer (some ⟨r, q, none⟩), fin _ ?_ ⟨_, e3⟩, .ptr _ _ _ _ hb⟩
    rw [e3]
    have hsh : w.shape? r = some (el', c.size) := by simp [World.shape?, g2]
    have hlt : ¬ c.size ≤ q := by omega
    simp [Conv.unsafePointer, run_underlying hs', run_underlying ht, run_seenAt g2, cellsIn, hsh, hC.run_size he, hn, hlt]
  · cases hf

theorem fromUnsafe_sound (hC : CxOk P C) {s t el : TypeId} {x : Operand} {y : COpd} {ei : TI} {n : Nat} (hs' : P.underlying s = some .unsafePointer) (ht : P.underlying t = some (.pointer el)) (he : C.ti el = some ei) (hn : ei.size = n + 1) (hx : opd C x = some y) :
    RSound P C (.convert s t x) (rFromUnsafe el (n + 1) y) := by
  intro KR S ρ e a w v o h H K k hs hg hR ho hrel hsub hf
  have hr := opd_rel hs hg hR (by simp [Op.operands]) hx
  have fin : ∀ X, (Conv.unsafePointer s t (a.eval x)).run P w = .ok X w → (∃ p, a.eval x = .pointer p) → Yields P (execOp a.eval o) w X := by
    rintro X hX ⟨p, hp⟩
    refine .now ?_
    unfold execOp
    rw [ho]
    rw [hp] at hX
    simp [convert, run_underlying hs', run_underlying ht, hX, hp]
  have hcell : P.cellsOf el = n + 1 := by
    obtain ⟨inf, g1, g2, g3, g4, _⟩ := hC.ti el ei he
    simp [Program.cellsOf, g1, g3, hn]
  simp only [rFromUnsafe] at hf
  generalize ev e y = cv at hf hr
  unfold fromUnsafe at hf
  split at hf
  · simp only [Option.some.injEq] at hf
    subst hf
    have e1 := hr.nilptr_inv
    refine ⟨.pointer none, fin _ ?_ ⟨_, e1⟩, .nilptr⟩
    rw [e1]
    simp [Conv.unsafePointer, run_underlying hs', run_underlying ht]
  · rename_i b
    obtain ⟨vs, el', fz, e2, f2⟩ := asCells_some hf
    obtain ⟨f0, f2'⟩ := cnd_some.1 f2
    obtain ⟨f3, f4⟩ := cnd_some.1 f2'
    rw [nat_beq_eq, decide_eq_true_eq] at f0
    rw [lenGe_eq, decide_eq_true_eq] at f3
    simp only [Option.some.injEq] at f4
    subst f4
    subst f0
    obtain ⟨r, m, e3, hb⟩ := hr.ptr_inv
    obtain ⟨r', m', c, fz', g1, g2, g3, g4, _⟩ := hrel.cells (hsub _ _ e2)
    rw [hb] at g1
    simp only [Option.some.injEq, Prod.mk.injEq] at g1
    obtain ⟨rfl, rfl⟩ := g1
    refine ⟨.pointer (some ⟨r, 0, none⟩), fin _ ?_ ⟨_, e3⟩, .ptr _ _ _ _ hb⟩
    rw [e3]
    have hsh : w.shape? r = some (el', c.size) := by simp [World.shape?, g2]
    have hlies : liesAt P P.depth el' (c.size / P.cellsOf el') 0 el' 1 = true := by
      have hd : P.depth = (2 * (P.types.size + Made.depth) + 1) + 1 := rfl
      have h1 : 1 ≤ c.size / (n + 1) := (Nat.le_div_iff_mul_le (by omega)).2 (by omega)
      rw [hd]
      simp only [liesAt, Bool.or_eq_true]
      left
      rw [hd]
      simp [rowAt, hcell, sameLayout, h1]
    simp [Conv.unsafePointer, run_underlying hs', run_underlying ht, run_seenAt g2, variablesAt, hsh, hC.run_size he, hn, hlies]
  · cases hf

end
end Go.Cm

/-
  The C machine, part W: every operation that is turned is sound.
-/
namespace Go.Cm

section
variable {P : Program} {C : Cx}

/-- What an operation comes to here is what it comes to there. -/
def AnySound (P : Program) (C : Cx) (op : Op) : CAny → Prop
  | .p f => PSound P C op f
  | .r f => RSound P C op f
  | .a f => ASound P C op f
  | .e f => ESound P C op f
  | .next it => ∃ x, op = .next x false ∧ opd C x = some it
  | .call f as => ∃ c g, op = .call c ∧ c.callee = .value g ∧ opd C g = some f ∧ opds C c.args.toList = some as
  | .defer f as => ∃ c g, op = .defer c ∧ c.callee = .value g ∧ opd C g = some f ∧ opds C c.args.toList = some as
  | .bad => True

theorem compLen_sound (hC : CxOk P C) {c : Call} (hc : c.callee = .builtin .len) {t : TypeId} {x : Operand} (ht : c.argTypes.toList = [t]) (hx : c.args.toList = [x]) {k : CAny} (h : compLen C t x = some k) : AnySound P C (.call c) k := by
  have h0 := h
  unfold compLen at h
  split at h
  · rename_i i y hi hy
    have hu := hC.under hi
    split at h <;> simp only [Option.some.injEq, reduceCtorEq] at h <;> subst h
    · exact lenP_sound hC hc ht hx h0
    · exact lenP_sound hC hc ht hx h0
    · exact lenP_sound hC hc ht hx h0
    · rename_i kt et hd
      exact lenMap_sound hc ht hx (hd ▸ hu) hy
  · cases h

theorem compBuiltin_sound (hC : CxOk P C) {c : Call} {b : Builtin} (hc : c.callee = .builtin b) {k : CAny} (h : compBuiltin C b c.argTypes.toList c.args.toList = some k) : AnySound P C (.call c) k := by
  unfold compBuiltin at h
  split at h
  · rename_i s x a b' h1 h2
    obtain ⟨f, rfl, hf⟩ := compAppend_sound hC hc h1 h2 h
    exact hf
  · rename_i t a h1 h2
    exact compLen_sound hC hc h1 h2 h
  · rename_i t a h1 h2
    split at h
    · rename_i q x hs hx
      obtain ⟨el, n, by', z⟩ := q
      obtain ⟨i, ei, hi, hu, _⟩ := sliceOf_some hs
      simp only [Option.some.injEq] at h
      subst h
      exact cap_sound hc h1 h2 (hu ▸ hC.under hi) hx
    · cases h
  · rename_i t t2 a b' h1 h2
    split at h
    · rename_i q n _ _ x y hs hx hy
      simp only [Option.some.injEq] at h
      subst h
      exact copy_sound hC hc h1 h2 hs hx hy
    · cases h
  · rename_i t a h1 h2
    split at h
    · rename_i _ _ _ z x hs hx
      simp only [Option.some.injEq] at h
      subst h
      exact clear_sound hC hc h1 h2 hs hx
    · cases h
  · rename_i t t2 a b' h1 h2
    split at h
    · rename_i K z x y hz hx hy
      simp only [Option.some.injEq] at h
      subst h
      exact delete_sound hC hc h1 h2 hz hx hy
    · cases h
  · rename_i a r h1
    split at h
    · rename_i x xs hx hxs
      simp only [Option.some.injEq] at h
      subst h
      exact mm_sound true hc h1 hx hxs
    · cases h
  · rename_i a r h1
    split at h
    · rename_i x xs hx hxs
      simp only [Option.some.injEq] at h
      subst h
      exact mm_sound false hc h1 hx hxs
    · cases h
  · rename_i a h1
    simp only [Option.map_eq_some_iff] at h
    obtain ⟨x, hx, rfl⟩ := h
    exact sliceData_sound hc h1 hx
  · rename_i t t2 a b' h1 h2
    split at h
    · rename_i i x y hi hx hy
      split at h
      · rename_i el hd
        split at h
        · rename_i ei he
          split at h
          · rename_i hsz
            simp only [Option.some.injEq] at h
            subst h
            exact unsafeString_sound hC hc h1 h2 (hd ▸ hC.under hi) he hsz hx hy
          · cases h
        · cases h
      · cases h
    · cases h
  · cases h

theorem compConvert_sound (hC : CxOk P C) {s t : TypeId} {x : Operand} {k : CAny} (h : compConvert C s t x = some k) : AnySound P C (.convert s t x) k := by
  unfold compConvert at h
  split at h
  · rename_i si di y hs hd hy
    have us := hC.under hs
    have ud := hC.under hd
    split at h
    · rename_i kk hk
      split at h
      · simp only [Option.some.injEq] at h; subst h
        exact convInt_sound hy us (hk ▸ ud)
      · cases h
    · rename_i hk
      split at h
      · simp only [Option.some.injEq] at h; subst h
        exact convF64_sound hy us (hk ▸ ud)
      · cases h
    · rename_i hk
      split at h
      · simp only [Option.some.injEq] at h; subst h
        exact convStr_sound hy us (hk ▸ ud)
      · rename_i el he
        split at h
        · rename_i ei hei
          split at h
          · rename_i hu8
            simp only [Option.some.injEq] at h; subst h
            exact bytesStr_sound (he ▸ us) (hk ▸ ud) (hu8 ▸ hC.under hei) hy
          · cases h
        · cases h
      · cases h
    · rename_i el hk
      split at h
      · rename_i q n _ _ hsd hq
        split at h
        · rename_i ei _ hei
          split at h
          · rename_i hu8
            simp only [Option.some.injEq] at h; subst h
            exact strBytes_sound (hsd ▸ us) (hk ▸ ud) (hu8 ▸ hC.under hei) hy
          · cases h
        · cases h
      · cases h
    · rename_i hk
      split at h
      · rename_i el he
        split at h
        · rename_i ei hei
          split at h
          · cases h
          · rename_i n hn
            simp only [Option.some.injEq] at h; subst h
            exact toUnsafe_sound hC (he ▸ us) (hk ▸ ud) hei hn hy
        · cases h
      · cases h
    · rename_i el hk
      split at h
      · rename_i he
        split at h
        · rename_i ei hei
          split at h
          · cases h
          · rename_i n hn
            simp only [Option.some.injEq] at h; subst h
            exact fromUnsafe_sound hC (he ▸ us) (hk ▸ ud) hei hn hy
        · cases h
      · cases h
    · cases h
  · cases h

theorem compBin_sound (hC : CxOk P C) (hd : 8 ≤ P.depth) {op : BinOp} {t s : TypeId} {x y : Operand} {k : CAny} (h : compBin C op t x y = some k) : AnySound P C (.binOp op t x y s) k := by
  unfold compBin at h
  split at h
  · rename_i i a b hi ha hb
    split at h
    · split at h
      · simp only [Option.some.injEq] at h; subst h
        exact shift_sound ha hb (Or.inl rfl)
      · simp only [Option.some.injEq] at h; subst h
        exact shift_sound ha hb (Or.inr rfl)
      · rename_i h1 h2
        simp only [Option.some.injEq] at h; subst h
        exact bin_int_sound ha hb ⟨h1, h2⟩
    · simp only [Option.some.injEq] at h; subst h
      exact bin_str_sound ha hb
    · simp only [Option.some.injEq] at h; subst h
      exact bin_fl_sound ha hb
    · split at h
      · simp only [Option.map_eq_some_iff] at h
        obtain ⟨f, hf, rfl⟩ := h
        exact eq_sound true ha hb (eqOf_sound hC hd hi hf)
      · simp only [Option.map_eq_some_iff] at h
        obtain ⟨f, hf, rfl⟩ := h
        exact eq_sound false ha hb (eqOf_sound hC hd hi hf)
      · cases h
  · cases h

theorem compOp_sound (hC : CxOk P C) (hd : 8 ≤ P.depth) {op : Op} {k : CAny} (h : compOp C op = some k) : AnySound P C op k := by
  unfold compOp at h
  split at h
  · simp only [Option.map_eq_some_iff] at h; obtain ⟨y, hy, rfl⟩ := h; exact move_sound hy (Or.inl rfl)
  · simp only [Option.map_eq_some_iff] at h; obtain ⟨y, hy, rfl⟩ := h; exact move_sound hy (Or.inr rfl)
  · split at h
    · rename_i h1 h2 h3
      simp only [Option.some.injEq] at h; subst h
      exact pick_sound h1 h2 h3
    · cases h
  · split at h
    · rename_i i hi
      simp only [Option.map_eq_some_iff] at h; obtain ⟨z, hz, rfl⟩ := h
      exact alloc_sound hC hi hz
    · cases h
  · simp only [Option.map_eq_some_iff] at h; obtain ⟨y, hy, rfl⟩ := h; exact box_sound hy
  · obtain ⟨g, rfl, hg⟩ := compBuild_sound hC h; exact hg
  · split at h
    · rename_i hs
      simp only [Option.map_eq_some_iff] at h; obtain ⟨ps, hps, rfl⟩ := h
      exact buildSlice_sound hC hs hps
    · cases h
  · split at h
    · rename_i hz hm hk hv
      simp only [Option.some.injEq] at h; subst h
      exact mapUpdate_sound hC hz hm hk hv (Or.inr rfl)
    · cases h
  · split at h
    · rename_i hz hm hk hv
      simp only [Option.some.injEq] at h; subst h
      exact mapUpdate_sound hC hz hm hk hv (Or.inl rfl)
    · cases h
  · split at h
    · rename_i hi ha
      simp only [Option.some.injEq] at h; subst h
      exact load_sound hC hi ha
    · cases h
  · split at h
    · rename_i i a v hi ha hv
      split at h
      · cases h
      · rename_i n hn
        simp only [Option.some.injEq] at h; subst h
        have := store_sound hC hi ha hv
        rw [hn] at this
        exact this
    · cases h
  · simp only [Option.map_eq_some_iff] at h; obtain ⟨y, hy, rfl⟩ := h; exact nilCheck_sound hy
  · exact compBin_sound hC hd h
  · split at h
    · rename_i hx
      unfold compUn at h
      split at h <;> simp only [Option.some.injEq, reduceCtorEq] at h <;> subst h
      · exact neg_sound hx
      · exact compl_sound hx
      · exact not_sound hx
    · cases h
  · exact compConvert_sound hC h
  · split at h
    · rename_i i x' hi hx
      split at h
      · cases h
      · rename_i hn
        simp only [Option.some.injEq] at h; subst h
        exact iface_sound hx (hC.under hi) hn
    · cases h
  · split at h
    · rename_i h1 h2
      simp only [Option.some.injEq] at h; subst h
      exact func_sound h1 h2
    · cases h
  · simp only [Option.some.injEq] at h; subst h
    exact map_sound
  · split at h
    · rename_i hs hl hc
      simp only [Option.some.injEq] at h; subst h
      exact makeSlice_sound hC hs hl hc
    · cases h
  · obtain ⟨g, rfl, hg⟩ := compSlice_sound hC h (compSlice_wf h); exact hg
  · obtain ⟨g, rfl, hg⟩ := compFieldAddr_sound hC h; exact hg
  · obtain ⟨g, rfl, hg⟩ := compField_sound hC h; exact hg
  · obtain ⟨g, rfl, hg⟩ := compIndexAddr_sound hC h; exact hg
  · obtain ⟨g, rfl, hg⟩ := compIndex_sound hC h; exact hg
  · split at h
    · rename_i hz hm hk
      simp only [Option.some.injEq] at h; subst h
      exact lookup_sound hC _ hz hm hk
    · cases h
  · split at h
    · rename_i hz hm hk
      simp only [Option.some.injEq] at h; subst h
      exact mapEntry_sound hC hz hm hk
    · cases h
  · split at h
    · rename_i hm hs hv
      simp only [Option.some.injEq] at h; subst h
      exact entryStore_sound hm hs hv
    · cases h
  · split at h
    · rename_i i x' hi hx
      split at h
      · rename_i kt et hd'
        simp only [Option.some.injEq] at h; subst h
        exact range_sound (hd' ▸ hC.under hi) hx
      · cases h
    · cases h
  · simp only [Option.map_eq_some_iff] at h; obtain ⟨y, hy, rfl⟩ := h; exact ⟨_, rfl, hy⟩
  · simp only [Option.map_eq_some_iff] at h; obtain ⟨y, hy, rfl⟩ := h; exact entry_sound hy
  · split at h
    · rename_i i x' hi hx
      split at h
      · cases h
      · rename_i hn
        simp only [Option.map_eq_some_iff] at h; obtain ⟨z, hz, rfl⟩ := h
        exact assert_sound hC _ _ _ hx hi hz hn
    · cases h
  · simp only [Option.map_eq_some_iff] at h; obtain ⟨y, hy, rfl⟩ := h; exact extract_sound _ hy
  · rename_i c
    unfold compCall at h
    split at h
    · rename_i f hf
      split at h
      · rename_i h1 h2
        simp only [Option.some.injEq] at h; subst h
        exact ⟨c, f, rfl, hf, h1, h2⟩
      · cases h
    · rename_i b hb
      exact compBuiltin_sound hC hb h
    · cases h
  · rename_i c
    split at h
    · rename_i f hf
      split at h
      · rename_i h1 h2
        simp only [Option.some.injEq] at h; subst h
        exact ⟨c, f, rfl, hf, h1, h2⟩
      · cases h
    · cases h
  · cases h

end
end Go.Cm

/-
  The C machine, part X: the next entry of a map; one operation.
-/
namespace Go.Cm

section
variable {P : Program} {C : Cx}

/-! ### The next entry of a map -/

theorem EsRel.filter {ρ : Ren} {p : CV × CV × Nat → Bool} {q : MapEntry → Bool} (hpq : ∀ e e', ERel ρ e e' → p e = q e') : ∀ {es : List (CV × CV × Nat)} {es' : List MapEntry}, EsRel ρ es es' → EsRel ρ (es.filter p) (es'.filter q)
  | [], [], _ => trivial
  | e :: es, e' :: es', h => by
    have h1 := hpq e e' h.1
    cases hp : p e <;> simp only [List.filter_cons, hp, ← h1, Bool.false_eq_true, if_false, if_true]
    · exact EsRel.filter hpq h.2
    · exact ⟨h.1, EsRel.filter hpq h.2⟩
  | [], _ :: _, h => h.elim
  | _ :: _, [], h => h.elim

theorem EsRel.append {ρ : Ren} : ∀ {es fs : List (CV × CV × Nat)} {es' fs' : List MapEntry}, EsRel ρ es es' → EsRel ρ fs fs' → EsRel ρ (es ++ fs) (es' ++ fs')
  | [], _, [], _, _, h => h
  | _ :: _, _, _ :: _, _, h, h' => ⟨h.1, EsRel.append h.2 h'⟩
  | [], _, _ :: _, _, h, _ => h.elim
  | _ :: _, _, [], _, h, _ => h.elim

theorem EsRel.all {ρ : Ren} {p : CV × CV × Nat → Bool} {q : MapEntry → Bool} (hpq : ∀ e e', ERel ρ e e' → p e = q e') : ∀ {es : List (CV × CV × Nat)} {es' : List MapEntry}, EsRel ρ es es' → es.all p = es'.all q
  | [], [], _ => rfl
  | e :: es, e' :: es', h => by simp [hpq e e' h.1, EsRel.all hpq h.2]
  | [], _ :: _, h => h.elim
  | _ :: _, [], h => h.elim

theorem EsRel.get? {ρ : Ren} : ∀ {es : List (CV × CV × Nat)} {es' : List MapEntry}, EsRel ρ es es' → ∀ (i : Nat) (e : CV × CV × Nat), es[i]? = some e → ∃ e', es'[i]? = some e' ∧ ERel ρ e e'
  | [], [], _, i, e, h => by simp at h
  | x :: es, x' :: es', h, 0, e, he => by simp at he; subst he; exact ⟨x', rfl, h.1⟩
  | x :: es, x' :: es', h, i + 1, e, he => EsRel.get? h.2 i e (by simpa using he)
  | [], _ :: _, h, _, _, _ => h.elim
  | _ :: _, [], h, _, _, _ => h.elim

/-- The candidates there. -/
def realCands (es : List MapEntry) (since : Nat) (seen : List Nat) : List (Option MapEntry) :=
  let left := es.filter fun e => !seen.contains e.born
  let old := left.filter (·.born < since)
  let new := left.filter (·.born ≥ since)
  (if old.isEmpty then [none] else []) ++ (old ++ new).map some

def CandRel (ρ : Ren) : Option (CV × CV × Nat) → Option MapEntry → Prop
  | none, none => True
  | some e, some e' => ERel ρ e e'
  | _, _ => False

theorem cands_rel {ρ : Ren} {es : List (CV × CV × Nat)} {es' : List MapEntry} (h : EsRel ρ es es') (since : Nat) (seen : List Nat) :
    (candidates es since seen).length = (realCands es' since seen).length ∧ ∀ (i : Nat) c, (candidates es since seen)[i]? = some c → ∃ c', (realCands es' since seen)[i]? = some c' ∧ CandRel ρ c c' := by
  have h1 : EsRel ρ (es.filter fun e => !seen.contains e.2.2) (es'.filter fun e => !seen.contains e.born) := h.filter fun e e' he => by rw [he.2.2]
  have h2 : EsRel ρ ((es.filter fun e => !seen.contains e.2.2).filter fun e => Nat.blt e.2.2 since) ((es'.filter fun e => !seen.contains e.born).filter (·.born < since)) :=
    h1.filter fun e e' he => by rw [nat_blt_eq, he.2.2]
  have h3 : EsRel ρ ((es.filter fun e => !seen.contains e.2.2).filter fun e => !Nat.blt e.2.2 since) ((es'.filter fun e => !seen.contains e.born).filter (·.born ≥ since)) :=
    h1.filter fun e e' he => by
      rw [nat_blt_eq, he.2.2, Bool.eq_iff_iff]
      simp
  have h4 := h2.append h3
  have he : ((es.filter fun e => !seen.contains e.2.2).filter fun e => Nat.blt e.2.2 since).isEmpty = ((es'.filter fun e => !seen.contains e.born).filter (·.born < since)).isEmpty := by
    have := h2.len
    rw [Bool.eq_iff_iff, List.isEmpty_iff_length_eq_zero, List.isEmpty_iff_length_eq_zero, this]
  unfold candidates realCands
  simp only [he]
  generalize ((es'.filter fun e => !seen.contains e.born).filter (·.born < since)).isEmpty = b
  constructor
  · have := h4.len
    cases b <;> simp at this ⊢ <;> omega
  · intro i c hc
    have key : ∀ (j : Nat) c, (List.map some ((es.filter fun e => !seen.contains e.2.2).filter (fun e => Nat.blt e.2.2 since) ++ (es.filter fun e => !seen.contains e.2.2).filter (fun e => !Nat.blt e.2.2 since)))[j]? = some c →
        ∃ c', (List.map some (((es'.filter fun e => !seen.contains e.born).filter (·.born < since)) ++ ((es'.filter fun e => !seen.contains e.born).filter (·.born ≥ since))))[j]? = some c' ∧ CandRel ρ c c' := by
      intro j c hc
      rw [List.getElem?_map] at hc
      simp only [Option.map_eq_some_iff] at hc
      obtain ⟨e, he, rfl⟩ := hc
      obtain ⟨e', he', hr⟩ := h4.get? j e he
      exact ⟨some e', by rw [List.getElem?_map, he']; rfl, hr⟩
    cases b
    · exact key i c hc
    · cases i with
      | zero => simp at hc; subst hc; exact ⟨none, by simp, trivial⟩
      | succ i =>
        simp only [if_true, List.singleton_append, List.getElem?_cons_succ] at hc ⊢
        exact key i c hc

theorem run_next {r m since clock last : Nat} {seen : Array Nat} {es : Array MapEntry} {w : World} (ty : TypeId) (h1 : w.heap[r]? = some (.mapIter (some m) since seen last)) (h2 : w.heap[m]? = some (.map es clock))
    (h3 : (!seen.isEmpty && !es.isEmpty && es.all (·.born ≥ last)) = false) (hn : 0 < (realCands es.toList since seen.toList).length) :
    ∃ i w1, i < (realCands es.toList since seen.toList).length ∧ (w1 = w ∨ w1 = { w with drawn := w.drawn + 1 }) ∧
      (∀ e, (realCands es.toList since seen.toList)[i]? = some (some e) → (Instr.next (.pointer (some ⟨r, 0, none⟩)) false ty).run P w = .ok (.tuple #[.bool true, e.key, e.val]) { w1 with heap := w1.heap.setIfInBounds r (.mapIter (some m) since (seen.push e.born) clock) }) ∧
      ((realCands es.toList since seen.toList)[i]? = some none → (Instr.next (.pointer (some ⟨r, 0, none⟩)) false ty).run P w = .ok (.tuple #[.bool false]) w1) := by
  have hset : ∀ (w1 : World) o, (w1 = w ∨ w1 = { w with drawn := w.drawn + 1 }) → (setObj r o).run P w1 = .ok () { w1 with heap := w1.heap.setIfInBounds r o } := by
    intro w1 o hw
    exact run_setObj (x := .mapIter (some m) since seen last) (by rcases hw with rfl | rfl <;> exact h1) (fun _ _ _ h => by cases h)
  have hc : ((if ((es.filter fun e => !seen.contains e.born).filter (·.born < since)).isEmpty then #[none] else #[]) ++ (((es.filter fun e => !seen.contains e.born).filter (·.born < since)) ++ ((es.filter fun e => !seen.contains e.born).filter (·.born ≥ since))).map some : Array (Option MapEntry)) =
      (realCands es.toList since seen.toList).toArray := by
    apply Array.ext'
    unfold realCands
    have e1 : ((es.filter fun e => !seen.contains e.born).filter (·.born < since)).isEmpty = ((es.toList.filter fun e => !seen.toList.contains e.born).filter (·.born < since)).isEmpty := by
      rw [Bool.eq_iff_iff, Array.isEmpty_iff, List.isEmpty_iff, ← Array.toList_eq_nil_iff]
      simp
    rw [e1]
    simp only [Array.toList_append, Array.toList_map, Array.toList_filter]
    cases ((es.toList.filter fun e => !seen.toList.contains e.born).filter (·.born < since)).isEmpty <;> simp
  have hrun : (Instr.next (.pointer (some ⟨r, 0, none⟩)) false ty).run P w = ((choose (.mapNext (realCands es.toList since seen.toList).length)).run P w).andThen fun i w1 =>
      (match (realCands es.toList since seen.toList)[i]? with
        | some (some e) => (do setObj r (.mapIter (some m) since (seen.push e.born) clock); pure (.tuple #[.bool true, e.key, e.val]) : Sem Value)
        | some none => pure (.tuple #[.bool false])
        | none => stuck "Next: no such candidate").run P w1 := by
    have := hc
    simp only [Instr.next, Sem.run_bind, run_getObj_iter h1, Result.andThen_ok, run_getObj_map h2, h3, Bool.false_eq_true, if_false, this]
    simp only [List.size_toArray, List.getElem?_toArray]
    rfl
  generalize hcs : realCands es.toList since seen.toList = cs at hn hrun
  by_cases h1n : cs.length ≤ 1
  · have hch : (choose (.mapNext cs.length)).run P w = .ok 0 w := by simp [choose, Sem.run, Question.forced, h1n]
    rw [hch, Result.andThen_ok] at hrun
    refine ⟨0, w, hn, Or.inl rfl, fun e he => ?_, fun he => ?_⟩
    · rw [hrun, he]; simp only [Sem.run_bind, hset w _ (Or.inl rfl), Result.andThen_ok]; rfl
    · rw [hrun, he]; rfl
  · have hch : (choose (.mapNext cs.length)).run P w = .ok (w.tape w.drawn (.mapNext cs.length) % cs.length) { w with drawn := w.drawn + 1 } := by
      simp [choose, Sem.run, Question.forced, h1n, Question.cut]
    rw [hch, Result.andThen_ok] at hrun
    refine ⟨w.tape w.drawn (.mapNext cs.length) % cs.length, { w with drawn := w.drawn + 1 }, Nat.mod_lt _ hn, Or.inr rfl, fun e he => ?_, fun he => ?_⟩
    · rw [hrun, he]; simp only [Sem.run_bind, hset { w with drawn := w.drawn + 1 } _ (Or.inr rfl), Result.andThen_ok]; rfl
    · rw [hrun, he]; rfl

theorem chooseOf_all {α : Type} {f : Option (CV × CV × Nat) → α} {cs : List (Option (CV × CV × Nat))} {Q : α → Prop} (h : (chooseOf f cs).All Q) : 0 < cs.length ∧ ∀ (i : Nat) c, cs[i]? = some c → Q (f c) := by
  match cs, h with
  | [], h => exact h.elim
  | [c], h =>
    refine ⟨by simp, fun i c' hc => ?_⟩
    cases i with
    | zero => simp at hc; subst hc; exact h
    | succ i => simp at hc
  | c :: d :: r, h =>
    refine ⟨by simp, fun i c' hc => ?_⟩
    have hi : i < r.length + 2 := by
      have := (List.getElem?_eq_some_iff.1 hc).1
      simpa using this
    have := h i hi
    simp only [hc] at this
    exact this

theorem next_sound {x : Operand} {y : COpd} (hx : opd C x = some y) {KR : KRelT} {S : Nat → Prop} {ρ : Ren} {e : Env} {a : Act} {w : World} {o : Oper} {h : Heap} {K : Nat → Option LObj} {n : Nat} {Q : CV → Heap → Prop}
    (hs : SRel C S ρ e a.tmps) (hg : GRel C.ng ρ) (hR : ∀ t, .tmp t ∈ (Op.next x false).operands → S t) (ho : o.op = .next x false) (hrel : Rel KR ρ h.get K n w) (hf : (nextOf (ev e y) h).All fun r => Q r.1 r.2) :
    ∃ v h' w' u, Q v h' ∧ (execOp a.eval o).run P w = .ok (.value u) w' ∧ VRel ρ v u ∧ Step KR ρ h.get K n w ρ h'.get K n w' := by
  have hr := opd_rel hs hg hR (by simp [Op.operands]) hx
  have fin : ∀ X w', (Instr.next (a.eval x) false o.type).run P w = .ok X w' → (execOp a.eval o).run P w = .ok (.value X) w' := by
    intro X w' hX
    unfold execOp
    rw [ho]
    simp [hX]
  generalize ev e y = cv at hf hr
  unfold nextOf at hf
  split at hf
  · rename_i b
    obtain ⟨r, m, e1, hb⟩ := hr.ptr_inv
    split at hf
    · rename_i since seen last hit
      obtain ⟨r2, m2, mp', g1, g2, g3⟩ := hrel.iter hit
      rw [hb] at g1
      simp only [Option.some.injEq, Prod.mk.injEq] at g1
      obtain ⟨rfl, rfl⟩ := g1
      rcases g3 with ⟨_, rfl⟩ | ⟨_, _, _, g3, _⟩
      · refine ⟨_, _, w, .tuple #[.bool false], hf, fin _ _ ?_, VRel.tuple_iff.2 ⟨_, rfl, .cons (.bool _) (.nil _)⟩, Step.refl hrel⟩
        rw [e1]
        simp only [Instr.next, Sem.run_bind, run_getObj_iter g2, Result.andThen_ok]
        rfl
      · cases g3
    · rename_i mp since seen last hit
      obtain ⟨r2, m2, mp', g1, g2, g3⟩ := hrel.iter hit
      rw [hb] at g1
      simp only [Option.some.injEq, Prod.mk.injEq] at g1
      obtain ⟨rfl, rfl⟩ := g1
      rcases g3 with ⟨g3, _⟩ | ⟨b', r', m', g3, rfl, g4⟩
      · cases g3
      simp only [Option.some.injEq] at g3
      subst g3
      unfold asMapO at hf
      split at hf
      · rename_i es clock hmo
        dsimp only at hf
        obtain ⟨r3, m3, es', k1, k2, k3⟩ := hrel.map hmo
        rw [g4] at k1
        simp only [Option.some.injEq, Prod.mk.injEq] at k1
        obtain ⟨rfl, rfl⟩ := k1
        cases hcond : (!seen.isEmpty && !es.isEmpty && es.all (fun e => Nat.ble last e.2.2))
        · rw [hcond, cnd_false] at hf
          obtain ⟨q1, q2⟩ := chooseOf_all hf
          obtain ⟨q3, q4⟩ := cands_rel k3 since seen
          have hcond' : (!seen.toArray.isEmpty && !es'.isEmpty && es'.all (·.born ≥ last)) = false := by
            have e2 : es.all (fun e => Nat.ble last e.2.2) = es'.toList.all (·.born ≥ last) := k3.all fun e e' he => by
              rw [he.2.2, Bool.eq_iff_iff]; simp
            have e3 : es.isEmpty = es'.isEmpty := by
              rw [Bool.eq_iff_iff, List.isEmpty_iff_length_eq_zero, k3.len, Array.isEmpty_iff, ← Array.toList_eq_nil_iff, List.length_eq_zero_iff]
            rw [← hcond, e2, e3, Array.all_toList]
            simp
          obtain ⟨i, w1, hi, hw1, hsome, hnone⟩ := run_next (P := P) o.type g2 k2 hcond' (by rw [List.toList_toArray, ← q3]; exact q1)
          simp only [List.toList_toArray] at hi hsome hnone
          obtain ⟨c, hc⟩ : ∃ c, (candidates es since seen)[i]? = some c := ⟨(candidates es since seen)[i]'(by omega), List.getElem?_eq_getElem _⟩
          have hQ := q2 i c hc
          obtain ⟨c', hc', hcr⟩ := q4 i c hc
          have hstep1 : Step KR ρ h.get K n w ρ h.get K n w1 := by
            rcases hw1 with rfl | rfl
            · exact Step.refl hrel
            · exact Step.drawn hrel _
          match c, c', hcr with
          | none, none, _ => exact ⟨_, _, w1, _, hQ, fin _ _ (by rw [e1]; exact hnone hc'), VRel.tuple_iff.2 ⟨_, rfl, .cons (.bool _) (.nil _)⟩, hstep1⟩
          | some e0, some e', hcr =>
            obtain ⟨k0, v0, s0⟩ := e0
            obtain ⟨t1, t2, t3⟩ := hcr
            simp only at t1 t2 t3
            refine ⟨_, _, _, _, hQ, fin _ _ (by rw [e1]; exact hsome e' hc'), VRel.tuple_iff.2 ⟨_, rfl, .cons (.bool _) (.cons t1 (.cons t2 (.nil _)))⟩, hstep1.trans ?_⟩
            show Step KR ρ h.get K n w1 ρ (h.set b (some (.mapIter (some mp) since (seen ++ [s0]) clock))).get K n _
            rw [get_set_fun]
            have hg2' : w1.heap[r]? = some (.mapIter (some r') since seen.toArray last) := by rcases hw1 with rfl | rfl <;> exact g2
            refine Step.write hstep1.rel hit hb hg2' (x' := .mapIter (some r') since (seen.toArray.push e'.born) clock) ?_ _ (fun k => set_get hg2' k) rfl rfl rfl
            exact ⟨⟨_, g4⟩, rfl, by simp [t3], rfl⟩
        · rw [hcond, cnd_true] at hf
          exact hf.elim
      · exact hf.elim
    · exact hf.elim
  · exact hf.elim

end
end Go.Cm

/-
  The C machine, part Y: one operation, its guard; a region in sequence.
-/
namespace Go.Cm

section
variable {P : Program} {C : Cx}

/-- A call put off. -/
def DRel1 (P : Program) (ρ : Ren) : CDef → Deferred → Prop
  | .call f as, d => ∃ fv us, VRel ρ f fv ∧ LRel ρ as us ∧ ∀ w, (Deferred.ofValue fv us.toArray).run P w = .ok d w
  | .collected r, d => ∃ r' m, ρ r = some (r', m) ∧ d = { target := .collected r', args := #[] }

def DsRel (P : Program) (ρ : Ren) : List CDef → List Deferred → Prop
  | [], [] => True
  | c :: cs, d :: ds => DRel1 P ρ c d ∧ DsRel P ρ cs ds
  | _, _ => False

theorem DRel1.mono {ρ ρ' : Ren} {c : CDef} {d : Deferred} (h : DRel1 P ρ c d) (s : Sub ρ ρ') : DRel1 P ρ' c d := by
  cases c with
  | call f as => obtain ⟨fv, us, h1, h2, h3⟩ := h; exact ⟨fv, us, h1.mono s, h2.mono s, h3⟩
  | collected r => obtain ⟨r', m, h1, h2⟩ := h; exact ⟨r', m, s _ _ h1, h2⟩
theorem DsRel.mono {ρ ρ' : Ren} (s : Sub ρ ρ') : ∀ {cs : List CDef} {ds : List Deferred}, DsRel P ρ cs ds → DsRel P ρ' cs ds
  | [], [], _ => trivial
  | _ :: _, _ :: _, h => ⟨h.1.mono s, DsRel.mono s h.2⟩
  | [], _ :: _, h => h.elim
  | _ :: _, [], h => h.elim

/-- The round that a call is one of. -/
def RdRel (ρ : Ren) : Option Nat → Option Nat → Prop
  | none, none => True
  | some l, some r => ∃ m, ρ l = some (r, m)
  | _, _ => False
theorem RdRel.mono {ρ ρ' : Ren} (s : Sub ρ ρ') : ∀ {rd rd' : Option Nat}, RdRel ρ rd rd' → RdRel ρ' rd rd'
  | none, none, _ => trivial
  | some _, some _, ⟨m, h⟩ => ⟨m, s _ _ h⟩
  | none, some _, h => h.elim
  | some _, none, h => h.elim

def fenceOf (rd : Option Nat) : Fence := { Fence.wide with round := rd }

/-- What a value is called with. -/
def InvokeOk (P : Program) (fv : Value) (us : Array Value) (w : World) (R : Value → World → Prop) : Prop :=
  ∃ d nx w2, (∀ w, (Deferred.ofValue fv us).run P w = .ok d w) ∧ (invoke d.target d.args).run P w = .ok nx w2 ∧
    match nx with
    | .value u => R u w2
    | .enter f args => CallsIn Fence.wide 0 P f args w2 fun e w' => ∃ u, e = .returned u ∧ R u w'
    | .round l f tmps assign body => RoundIn Fence.wide 0 P l f tmps assign body w2 fun e w' => ∃ u, e = .returned u ∧ R u w'
    | .row row args => RowsIn Fence.wide 0 P row args w2 R
    | _ => False

theorem InvokeOk.mono {fv : Value} {us : Array Value} {w : World} {R R' : Value → World → Prop} (h : InvokeOk P fv us w R) (hr : ∀ u w', R u w' → R' u w') : InvokeOk P fv us w R' := by
  obtain ⟨d, nx, w2, h1, h2, h3⟩ := h
  refine ⟨d, nx, w2, h1, h2, ?_⟩
  cases nx <;> first | exact h3.elim | skip
  · exact hr _ _ h3
  · exact CallsIn.mono h3 fun e w' ⟨u, e1, e2⟩ => ⟨u, e1, hr _ _ e2⟩
  · exact RoundIn.mono h3 fun e w' ⟨u, e1, e2⟩ => ⟨u, e1, hr _ _ e2⟩
  · exact RowsIn.mono h3 hr

/-- A way of calling that is sound. -/
def CallSound (P : Program) (KR : KRelT) (ng : Nat) (call : CallF) : Prop :=
  ∀ (f : CV) (as : List CV) (h : Heap) (c : Ctl) (n : Nat) (Q : CV → Heap → Ctl → Nat → Prop), ((call f as h c n).All fun r => CR.rec (motive := fun _ => Prop) Q r) →
    ∀ (ρ : Ren) (w : World) (fv : Value) (us : List Value), VRel ρ f fv → LRel ρ as us → GRel ng ρ → Rel KR ρ h.get c.get n w →
      InvokeOk P fv us.toArray w fun u w' => ∃ v h' c' n' ρ', Q v h' c' n' ∧ VRel ρ' v u ∧ Step KR ρ h.get c.get n w ρ' h'.get c'.get n' w'

/-- What an operation comes to here is what it comes to there; one that puts a call off is turned as such. -/
def OpOk (P : Program) (C : Cx) (op : Op) (k : CAny) : Prop := AnySound P C op k ∧ ∀ c, op = .defer c → k = .bad ∨ ∃ f as, k = .defer f as

theorem compOp_ok (hC : CxOk P C) (hd : 8 ≤ P.depth) {op : Op} {k : CAny} (h : compOp C op = some k) : OpOk P C op k := by
  refine ⟨compOp_sound hC hd h, ?_⟩
  rintro c rfl
  unfold compOp at h
  simp only at h
  split at h
  · split at h
    · simp only [Option.some.injEq] at h; exact Or.inr ⟨_, _, h.symm⟩
    · cases h
  · cases h

theorem semAt_of {rd : Option Nat} {o : Oper} (ρ : Operand → Value) (h : ∀ c, o.op ≠ .defer c) : o.semAt (fenceOf rd).round ρ = execOp ρ o := Oper.semAt_eq _ _ _ h

/-- What is behind an operation: the slots, the calls put off, memory. -/
def After (P : Program) (C : Cx) (KR : KRelT) (Q : SR → Prop) (cont : Cont) (d : List Bool) (e : Env) (p : Pend) (ρ : Ren) (h : Heap) (c : Ctl) (n : Nat) (w : World) (o : Oper) (a : Act) (a' : Act) (w' : World) : Prop :=
  ∃ v u ds' h' c' n' ρ', (cont (e.put v d) ds' p h' c' n').All Q ∧ VRel ρ' v u ∧ Step KR ρ h.get c.get n w ρ' h'.get c'.get n' w' ∧ DsRel P ρ' ds' a'.defers ∧ a'.tmps = (a.put o.dst u).tmps

theorem put_defers' (a : Act) (dst : Option Nat) (v : Value) : (a.put dst v).defers = a.defers := by cases dst <;> rfl

theorem opStep_sound {KR : KRelT} (hKR : KMono KR) {call : CallF} (hcall : CallSound P KR C.ng call) {rd rd' : Option Nat} {o : Oper} {k : CAny} (hk : OpOk P C o.op k) {d : List Bool}
    {cont : Cont} {e : Env} {ds : List CDef} {p : Pend} {h : Heap} {c : Ctl} {n : Nat} {Q : SR → Prop} (hrun : (runStep call rd (stepOf d k) cont e ds p h c n).All Q)
    {S : Nat → Prop} {ρ : Ren} {a : Act} {w : World} (hs : SRel C S ρ e a.tmps) (hR : ∀ t, .tmp t ∈ o.op.operands → S t) (hg : GRel C.ng ρ) (hrel : Rel KR ρ h.get c.get n w) (hds : DsRel P ρ ds a.defers) (hrd : RdRel ρ rd rd')
    {next : Act → World → Prop} {Qx : Exit → Act → World → Prop} (hnext : ∀ a' w', After P C KR Q cont d e p ρ h c n w o a a' w' → next a' w') :
    o.wpIn (fenceOf rd') 0 P a w next Qx := by
  refine ⟨fun _ _ => trivial, ?_⟩
  have hnd : ((∀ f as, k ≠ .defer f as) ∧ k ≠ .bad) → ∀ c, o.op ≠ .defer c := fun h1 c hc => by
    rcases hk.2 c hc with h2 | ⟨f, as, h2⟩
    · exact h1.2 h2
    · exact h1.1 f as h2
  obtain ⟨hk1, hk2⟩ := hk
  cases k with
  | p f =>
    rw [semAt_of _ (hnd (by simp))]
    have hrun' : (Option.rec (motive := fun _ => Tree SR) .fail (fun v => cont (e.put v d) ds p h c n) (f e)).All Q := hrun
    cases hf : f e with
    | none => rw [hf] at hrun'; exact hrun'.elim
    | some v =>
      rw [hf] at hrun'
      obtain ⟨u, hy, hv⟩ := hk1 S ρ e a w v o hs hg hR rfl hf
      rw [show (execOp a.eval o).run P w = _ from hy]
      exact hnext _ _ ⟨v, u, ds, h, c, n, ρ, hrun', hv, Step.refl hrel, by rw [put_defers']; exact hds, rfl⟩
  | r f =>
    rw [semAt_of _ (hnd (by simp))]
    have hrun' : (Option.rec (motive := fun _ => Tree SR) .fail (fun v => cont (e.put v d) ds p h c n) (f e h)).All Q := hrun
    cases hf : f e h with
    | none => rw [hf] at hrun'; exact hrun'.elim
    | some v =>
      rw [hf] at hrun'
      obtain ⟨u, hy, hv⟩ := hk1 KR S ρ e a w v o h h.get c.get n hs hg hR rfl hrel (fun _ _ h => h) hf
      rw [show (execOp a.eval o).run P w = _ from hy]
      exact hnext _ _ ⟨v, u, ds, h, c, n, ρ, hrun', hv, Step.refl hrel, by rw [put_defers']; exact hds, rfl⟩
  | a f =>
    rw [semAt_of _ (hnd (by simp))]
    have hrun' : (Option.rec (motive := fun _ => Tree SR) .fail (fun r => cont (e.put (r.2 n) d) ds p (h.set n (some r.1)) c (n + 1)) (f e)).All Q := hrun
    cases hf : f e with
    | none => rw [hf] at hrun'; exact hrun'.elim
    | some q =>
      rw [hf] at hrun'
      obtain ⟨ob, mk⟩ := q
      obtain ⟨x, m, u, hy, ho, hv⟩ := hk1 S ρ e a w o ob mk hs hg hR rfl hf
      rw [hy]
      have hstep := Step.alloc hKR hrel ho { w with heap := w.heap.push x } rfl rfl rfl rfl
      refine hnext _ _ ⟨mk n, u, ds, h.set n (some ob), c, n + 1, _, hrun', hv _ n (ext_same _ _ _), by rw [get_set_fun]; exact hstep, ?_, rfl⟩
      rw [put_defers']
      exact hds.mono hstep.sub
  | e f =>
    rw [semAt_of _ (hnd (by simp))]
    have hrun' : (Option.rec (motive := fun _ => Tree SR) .fail (fun r => cont (e.put r.1 d) ds p r.2.1 c r.2.2) (f e h n)).All Q := hrun
    cases hf : f e h n with
    | none => rw [hf] at hrun'; exact hrun'.elim
    | some q =>
      rw [hf] at hrun'
      obtain ⟨v, h', n'⟩ := q
      obtain ⟨ρ', w', nx, hy, hstep, hv⟩ := hk1 KR hKR S ρ e a w o h c.get n v h' n' hs hg hR rfl hrel hf
      rw [hy]
      rcases hv with ⟨u, rfl, hv⟩ | ⟨rfl, rfl⟩
      · exact hnext _ _ ⟨v, u, ds, h', c, n', ρ', hrun', hv, hstep, by rw [put_defers']; exact hds.mono hstep.sub, rfl⟩
      · exact hnext _ _ ⟨_, undef, ds, h', c, n', ρ', hrun', VRel.undef ρ', hstep, by rw [put_defers']; exact hds.mono hstep.sub, rfl⟩
  | next it =>
    rw [semAt_of _ (hnd (by simp))]
    obtain ⟨x, hop, hx⟩ := hk1
    have hrun' : ((nextOf (ev e it) h).bind fun r => cont (e.put r.1 d) ds p r.2 c n).All Q := hrun
    rw [Tree.all_bind] at hrun'
    rw [hop] at hR
    obtain ⟨v, h', w', u, hq, hy, hv, hstep⟩ := next_sound (Q := fun v h' => (cont (e.put v d) ds p h' c n).All Q) hx hs hg hR hop hrel hrun'
    rw [hy]
    exact hnext _ _ ⟨v, u, ds, h', c, n, ρ, hq, hv, hstep, by rw [put_defers']; exact hds.mono hstep.sub, rfl⟩
  | call f as =>
    rw [semAt_of _ (hnd (by simp))]
    obtain ⟨cl, g, hop, hcl, hgf, has⟩ := hk1
    have hrun' : ((call (ev e f) (mapL (ev e) as) h c n).bind fun r => CR.rec (motive := fun _ => Tree SR) (fun v h c n => cont (e.put v d) ds p h c n) r).All Q := hrun
    rw [Tree.all_bind] at hrun'
    have hops : (Op.call cl).operands = #[g] ++ cl.args := by simp [Op.operands, Call.operands, hcl]
    rw [hop, hops] at hR
    have h1 := opd_rel hs hg hR (x := g) (by simp) hgf
    have h2 := opds_rel hs hg hR (xs := cl.args.toList) (fun x hx => by simp at hx; simp [hx]) has
    have := hcall _ _ h c n (fun v h' c' n' => (cont (e.put v d) ds p h' c' n').All Q) (hrun'.mono fun r hr => by cases r; exact hr) ρ w _ _ h1 h2 hg hrel
    obtain ⟨dd, nx, w2, i1, i2, i3⟩ := this
    have hy : (execOp a.eval o).run P w = .ok nx w2 := by
      unfold execOp
      rw [hop]
      have e1 : (List.map a.eval cl.args.toList).toArray = cl.args.map a.eval := by apply Array.ext'; simp
      rw [e1] at i1
      simp only [resolve, hcl, Sem.run_bind, i1, Result.andThen_ok, i2]
    rw [hy]
    have fin : ∀ (u : Value) (w' : World), (∃ v h' c' n' ρ', (cont (e.put v d) ds p h' c' n').All Q ∧ VRel ρ' v u ∧ Step KR ρ h.get c.get n w ρ' h'.get c'.get n' w') → next (a.put o.dst u) w' := by
      rintro u w' ⟨v, h', c', n', ρ', q1, q2, q3⟩
      exact hnext _ _ ⟨v, u, ds, h', c', n', ρ', q1, q2, q3, by rw [put_defers']; exact hds.mono q3.sub, rfl⟩
    cases nx <;> first | exact i3.elim | skip
    · exact fin _ _ i3
    · exact ⟨(fun h => by cases h), CallsIn.mono i3 (by rintro e' w' ⟨u, rfl, hu⟩; exact fin u w' hu)⟩
    · exact ⟨(fun h => by cases h), RoundIn.mono i3 (by rintro e' w' ⟨u, rfl, hu⟩; exact fin u w' hu)⟩
    · exact ⟨(fun h => by cases h), RowsIn.mono i3 (fun u w' hu => fin u w' hu)⟩
  | defer f as =>
    obtain ⟨cl, g, hop, hcl, hgf, has⟩ := hk1
    have hrun0 : (cnd (isFunc (ev e f)) (Option.rec (motive := fun _ => Tree SR) (cont (e.put .undef d) (.call (ev e f) (mapL (ev e) as) :: ds) p h c n) (fun _ => .fail) rd) .fail).All Q := hrun
    cases hfn : isFunc (ev e f) with
    | false => rw [hfn] at hrun0; exact hrun0.elim
    | true =>
    rw [hfn, cnd_true] at hrun0
    cases rd with
    | some l => exact hrun0.elim
    | none =>
      cases rd' with
      | some _ => exact hrd.elim
      | none =>
        have hrun' : (cont (e.put .undef d) (.call (ev e f) (mapL (ev e) as) :: ds) p h c n).All Q := hrun0
        have hops : (Op.defer cl).operands = #[g] ++ cl.args := by simp [Op.operands, Call.operands, hcl]
        rw [hop, hops] at hR
        have h1 := opd_rel hs hg hR (x := g) (by simp) hgf
        have h2 := opds_rel hs hg hR (xs := cl.args.toList) (fun x hx => by simp at hx; simp [hx]) has
        obtain ⟨q, xs, ys, hq⟩ : ∃ q xs ys, ev e f = .func q xs ys := by
          cases hv : ev e f <;> simp only [hv, isFunc, reduceCtorEq] at hfn
          exact ⟨_, _, _, rfl⟩
        have h1' := h1
        rw [hq] at h1'
        obtain ⟨us, vs, hfv, _, _⟩ := VRel.func_iff.1 h1'
        have e1 : (List.map a.eval cl.args.toList).toArray = cl.args.map a.eval := by apply Array.ext'; simp
        have hof : ∀ w, (Deferred.ofValue (a.eval g) (cl.args.map a.eval)).run P w = .ok { target := .fn (.func q) vs, args := us ++ cl.args.map a.eval } w := fun w => by rw [hfv]; rfl
        have hy : (o.semAt (fenceOf none).round a.eval).run P w = .ok (.defer { target := .fn (.func q) vs, args := us ++ cl.args.map a.eval }) w := by
          show (execOp a.eval o).run P w = _
          unfold execOp
          rw [hop]
          simp only [resolve, hcl, Sem.run_bind, hof, Result.andThen_ok]
          rfl
        rw [hy]
        refine hnext _ _ ⟨.undef, undef, .call (ev e f) (mapL (ev e) as) :: ds, h, c, n, ρ, hrun', VRel.undef ρ, Step.refl hrel, ?_, by cases o.dst <;> rfl⟩
        rw [put_defers']
        exact ⟨⟨a.eval g, List.map a.eval cl.args.toList, h1, h2, fun w => by rw [e1]; exact hof w⟩, hds⟩
  | bad => exact (show False from hrun).elim

/-! ### Its guard -/

/-- The slots that an operation reads. -/
def Reads (ops : Array Oper) (o : Oper) (t : Nat) : Prop := .tmp t ∈ o.op.operands ∨ ∃ j b, o.guard = some (j, b) ∧ dstAt ops j = some t

theorem sGuard_cases {v : CV} {u : Value} {ρ : Ren} (hv : VRel ρ v u) {want : Bool} {yes no : Tree SR} {Q : SR → Prop} (h : (sGuard v want yes no).All Q) :
    (u = .bool want ∧ yes.All Q) ∨ (u ≠ .bool want ∧ no.All Q) := by
  cases hv with
  | bool b =>
    have h' : (cnd b (cnd want yes no) (cnd want no yes)).All Q := h
    cases b <;> cases want
    · exact Or.inl ⟨rfl, h'⟩
    · exact Or.inr ⟨by simp, h'⟩
    · exact Or.inr ⟨by simp, h'⟩
    · exact Or.inl ⟨rfl, h'⟩
  | unk v h1 => exact (show False from h).elim
  | _ => exact Or.inr ⟨by simp, h⟩

theorem wanted_iff {S : Nat → Prop} {ρ : Ren} {e : Env} {a : Act} (hs : SRel C S ρ e a.tmps) {ops : Array Oper} {o : Oper} {j t : Nat} {b : Bool} (hgd : o.guard = some (j, b)) (hj : dstAt ops j = some t) (ht : t < C.nt) :
    Region.wanted o (yielded ops a.tmps) = true ↔ a.tmps.getD t undef = .bool b := by
  have hlt : t < a.tmps.size := by rw [hs.size]; exact ht
  unfold Region.wanted
  rw [hgd]
  simp only
  have hj' : ((ops[j]?).bind (·.dst)) = some t := hj
  simp only [yielded, hj', Option.bind_some, Array.getElem?_eq_getElem hlt]
  have : a.tmps.getD t undef = a.tmps[t] := by simp [Array.getD, hlt]
  rw [this]
  cases hv : a.tmps[t] <;> simp

/-- An operation of a region, its guard taken in. -/
theorem operStep_sound {KR : KRelT} (hKR : KMono KR) {call : CallF} (hcall : CallSound P KR C.ng call) {rd rd' : Option Nat} {ops : Array Oper} {i : Nat} {o : Oper} (hi : ops[i]? = some o) {k : CAny} (hk : OpOk P C o.op k) {d : List Bool}
    {cont : Cont} {e : Env} {ds : List CDef} {p : Pend} {h : Heap} {c : Ctl} {n : Nat} {Q : SR → Prop} (hrun : (runStep call rd (guardStep C ops d o.guard (stepOf d k)) cont e ds p h c n).All Q)
    {S : Nat → Prop} {ρ : Ren} {a : Act} {w : World} (hs : SRel C S ρ e a.tmps) (hR : ∀ t, Reads ops o t → S t) (hg : GRel C.ng ρ) (hrel : Rel KR ρ h.get c.get n w) (hds : DsRel P ρ ds a.defers) (hrd : RdRel ρ rd rd')
    {next : Act → World → Prop} {Qx : Exit → Act → World → Prop} (hnext : ∀ a' w', After P C KR Q cont d e p ρ h c n w o a a' w' → next a' w') :
    wpOpIn (fenceOf rd') 0 P ops Qx i next a w := by
  unfold wpOpIn
  rw [hi]
  simp only
  cases hgd : o.guard with
  | none =>
    rw [hgd] at hrun
    have hw : Region.wanted o (yielded ops a.tmps) = true := by simp [Region.wanted, hgd]
    rw [if_pos hw]
    exact opStep_sound hKR hcall hk hrun hs (fun t ht => hR t (Or.inl ht)) hg hrel hds hrd hnext
  | some g =>
    obtain ⟨j, b⟩ := g
    rw [hgd] at hrun
    simp only [guardStep] at hrun
    cases hj : (dstAt ops j).bind (slot C) with
    | none => rw [hj] at hrun; exact hrun.elim
    | some q =>
      rw [hj] at hrun
      simp only at hrun
      obtain ⟨t, hj1, hj2⟩ := Option.bind_eq_some_iff.1 hj
      obtain ⟨ht, rfl⟩ := slot_some hj2
      have hv := hs.val t ht (hR t (Or.inr ⟨j, b, hgd, hj1⟩))
      have hrun' : (sGuard (e.look .undef (pth C t)) b (runStep call rd (stepOf d k) cont e ds p h c n) (cont (e.put .undef d) ds p h c n)).All Q := hrun
      rcases sGuard_cases hv hrun' with ⟨h1, h2⟩ | ⟨h1, h2⟩
      · rw [if_pos ((wanted_iff hs hgd hj1 ht).2 h1)]
        exact opStep_sound hKR hcall hk h2 hs (fun t ht => hR t (Or.inl ht)) hg hrel hds hrd hnext
      · rw [if_neg (fun hw => h1 ((wanted_iff hs hgd hj1 ht).1 hw))]
        exact ⟨fun _ _ => trivial, hnext _ _ ⟨.undef, undef, ds, h, c, n, ρ, h2, VRel.undef ρ, Step.refl hrel, by rw [put_defers']; exact hds, rfl⟩⟩

/-! ### A region in sequence -/

/-- What holds behind a piece of code. -/
def Behind (P : Program) (C : Cx) (KR : KRelT) (ρ : Ren) (h : Heap) (c : Ctl) (n : Nat) (w : World) (Q : Env → List CDef → Heap → Ctl → Nat → Prop) (a' : Act) (w' : World) : Prop :=
  ∃ e' ds' h' c' n' ρ', Q e' ds' h' c' n' ∧ SRel C (fun _ => True) ρ' e' a'.tmps ∧ DsRel P ρ' ds' a'.defers ∧ Step KR ρ h.get c.get n w ρ' h'.get c'.get n' w'

theorem seq_sound {KR : KRelT} (hKR : KMono KR) (hC : CxOk P C) (hd : 8 ≤ P.depth) {call : CallF} (hcall : CallSound P KR C.ng call) {rd rd' : Option Nat} {ops : Array Oper} {Q : Env → List CDef → Heap → Ctl → Nat → Prop} {Qx : Exit → Act → World → Prop}
    {ρ0 : Ren} {h0 : Heap} {c0 : Ctl} {n0 : Nat} {w0 : World} (hQ : ∀ a w, Behind P C KR ρ0 h0 c0 n0 w0 Q a w → Qx .normal a w) :
    ∀ (l : List Nat), (∀ i ∈ l, i < ops.size) → ∀ (e : Env) (ds : List CDef) (h : Heap) (c : Ctl) (n : Nat) (ρ : Ren) (a : Act) (w : World),
      ((runSteps call rd (l.map fun i => compOper C ops (ops.getD i default)) e ds [] h c n).All fun r => SR.rec (motive := fun _ => Prop) Q r) →
      SRel C (fun _ => True) ρ e a.tmps → GRel C.ng ρ → DsRel P ρ ds a.defers → RdRel ρ rd rd' → Step KR ρ0 h0.get c0.get n0 w0 ρ h.get c.get n w →
      wpOpsIn (fenceOf rd') 0 P ops Qx l a w
  | [], _, e, ds, h, c, n, ρ, a, w, hrun, hs, _, hds, _, hstep => hQ a w ⟨e, ds, h, c, n, ρ, hrun, hs, hds, hstep⟩
  | i :: l, hl, e, ds, h, c, n, ρ, a, w, hrun, hs, hg, hds, hrd, hstep => by
    have hi : i < ops.size := hl i (by simp)
    have hio : ops[i]? = some ops[i] := Array.getElem?_eq_getElem hi
    rw [wpOpsIn_cons]
    have hgd : ops.getD i default = ops[i] := by simp [Array.getD, hi]
    have hrun' : (runStep call rd (compOper C ops ops[i]) (runSteps call rd (l.map fun i => compOper C ops (ops.getD i default))) e ds [] h c n).All fun r => SR.rec (motive := fun _ => Prop) Q r := by
      rw [← hgd]; exact hrun
    unfold compOper at hrun'
    split at hrun'
    · rename_i k d hk hdst
      refine operStep_sound hKR hcall hio (compOp_ok hC hd hk) hrun' hs (fun _ _ => trivial) hg hstep.rel hds hrd ?_
      rintro a' w' ⟨v, u, ds', h', c', n', ρ', q1, q2, q3, q4, q5⟩
      refine seq_sound hKR hC hd hcall hQ l (fun j hj => hl j (by simp [hj])) _ ds' h' c' n' ρ' a' w' q1 ?_ (hg.mono q3.sub) q4 (hrd.mono q3.sub) (hstep.trans q3)
      rw [q5]
      exact ((hs.mono q3.sub).at_dst hdst q2).weaken (fun t _ => Or.inl trivial)
    · exact (show False from hrun').elim

end
end Go.Cm

/-
  The C machine, part Z: regions without a fixed order: what stands ahead of what; frames.
-/
namespace Go.Cm

section
variable {P : Program} {C : Cx}

/-! ### What stands ahead of what -/

theorem force_eq {α : Type} (n : Nat) (k : Nat → α) : force n k = k n := by cases n <;> rfl

/-- What 'befL' adds to. -/
theorem befL_prefix : ∀ (ops : List Oper) (prev : List Nat), ∃ r, befL ops prev = prev ++ r ∧ r.length = ops.length
  | [], prev => ⟨[], by simp [befL], rfl⟩
  | o :: ops, prev => by
    obtain ⟨r, h1, h2⟩ := befL_prefix ops (prev ++ [befOne prev o.after.toList])
    refine ⟨befOne prev o.after.toList :: r, ?_, by simp [h2]⟩
    show force _ _ = _
    rw [force_eq, h1]
    simp

theorem befOne_spec (prev : List Nat) : ∀ (es : List Edge) (i : Nat), (befOne prev es).testBit i = true → ∃ e ∈ es, Region.binds .any e = true ∧ (i = e.on ∨ (prev.getD e.on 0).testBit i = true)
  | [], i, h => by simp [befOne] at h
  | e :: es, i, h => by
    have h' : (if Region.binds .any e then befOne prev es ||| 2 ^ e.on ||| prev.getD e.on 0 else befOne prev es).testBit i = true := h
    by_cases hb : Region.binds .any e = true
    · rw [if_pos hb] at h'
      simp only [Nat.testBit_or, Bool.or_eq_true, Nat.testBit_two_pow, decide_eq_true_eq] at h'
      rcases h' with (h' | h') | h'
      · obtain ⟨e', h1, h2⟩ := befOne_spec prev es i h'
        exact ⟨e', by simp [h1], h2⟩
      · exact ⟨e, by simp, hb, Or.inl h'.symm⟩
      · exact ⟨e, by simp, hb, Or.inr h'⟩
    · rw [if_neg hb] at h'
      obtain ⟨e', h1, h2⟩ := befOne_spec prev es i h'
      exact ⟨e', by simp [h1], h2⟩

theorem befL_spec : ∀ (ops : List Oper) (prev : List Nat) (j : Nat) (o : Oper), ops[j]? = some o → ∀ i, ((befL ops prev).getD (prev.length + j) 0).testBit i = true →
    ∃ e ∈ o.after.toList, Region.binds .any e = true ∧ (i = e.on ∨ (e.on < prev.length + j ∧ ((befL ops prev).getD e.on 0).testBit i = true))
  | [], _, _, _, h, _, _ => by simp at h
  | o :: ops, prev, 0, o', h, i, hi => by
    simp at h
    subst h
    have hb : befL (o :: ops) prev = befL ops (prev ++ [befOne prev o.after.toList]) := by
      show force _ _ = _
      rw [force_eq]
    obtain ⟨r, h1, _⟩ := befL_prefix ops (prev ++ [befOne prev o.after.toList])
    have e1 : (befL (o :: ops) prev).getD prev.length 0 = befOne prev o.after.toList := by
      rw [hb, h1]
      simp
    rw [Nat.add_zero, e1] at hi
    obtain ⟨e, h2, h3, h4⟩ := befOne_spec prev _ i hi
    refine ⟨e, h2, h3, ?_⟩
    rcases h4 with h4 | h4
    · exact Or.inl h4
    · by_cases hlt : e.on < prev.length
      · refine Or.inr ⟨by omega, ?_⟩
        rw [hb, h1]
        simp only [List.getD_eq_getElem?_getD, List.append_assoc] at h4 ⊢
        rw [List.getElem?_append_left hlt]
        exact h4
      · rw [List.getD_eq_getElem?_getD, List.getElem?_eq_none (Nat.le_of_not_lt hlt)] at h4
        simp at h4
  | o :: ops, prev, j + 1, o', h, i, hi => by
    have hb : befL (o :: ops) prev = befL ops (prev ++ [befOne prev o.after.toList]) := by
      show force _ _ = _
      rw [force_eq]
    rw [hb] at hi ⊢
    have := befL_spec ops (prev ++ [befOne prev o.after.toList]) j o' (by simpa using h) i (by
      have e : (prev ++ [befOne prev o.after.toList]).length + j = prev.length + (j + 1) := by simp; omega
      rw [e]; exact hi)
    obtain ⟨e, h1, h2, h3⟩ := this
    refine ⟨e, h1, h2, ?_⟩
    rcases h3 with h3 | ⟨h3, h4⟩
    · exact Or.inl h3
    · exact Or.inr ⟨by simp at h3; omega, h4⟩

/-- A set of operations that holds, with each, what it stands behind. -/
def Closed (ops : Array Oper) (L : Nat → Prop) : Prop := ∀ j o, ops[j]? = some o → L j → ∀ e ∈ o.after.toList, Region.binds .any e = true → L e.on

theorem bef_closed {ops : Array Oper} {L : Nat → Prop} (hL : Closed ops L) : ∀ (j : Nat) (o : Oper), ops[j]? = some o → (∀ e ∈ o.after.toList, Region.binds .any e = true → L e.on) →
    ∀ i, ((befL ops.toList []).getD j 0).testBit i = true → L i := by
  intro j
  induction j using Nat.strongRecOn with
  | _ j ih =>
    intro o ho hall i hi
    obtain ⟨e, h1, h2, h3⟩ := befL_spec ops.toList [] j o (by simpa using ho) i (by simpa using hi)
    rcases h3 with rfl | ⟨h3, h4⟩
    · exact hall e h1 h2
    · simp at h3
      have hle := hall e h1 h2
      have hj : j < ops.size := (Array.getElem?_eq_some_iff.1 ho).1
      have ho' : ops[e.on]? = some ops[e.on] := Array.getElem?_eq_getElem (by omega)
      exact ih e.on h3 ops[e.on] ho' (fun e' he' hb' => hL e.on _ ho' hle e' he' hb') i h4

/-! ### Frames: memory beside memory -/

/-- 'X' laid over 'H'. -/
def uni (H X : Nat → Option MObj) : Nat → Option MObj := fun b => match X b with
  | some o => some o
  | none => H b

theorem uni_none (H : Nat → Option MObj) : uni H (fun _ => none) = H := rfl

theorem Rel.part {KR : KRelT} {ρ : Ren} {H H' : Nat → Option MObj} {K : Nat → Option LObj} {n : Nat} {w : World} (h : Rel KR ρ H K n w) (hs : ∀ b o, H' b = some o → H b = some o) : Rel KR ρ H' K n w := by
  have hl : ∀ c, Live H' K c → Live H K c := by
    intro c hc
    rcases hc with hc | hc
    · cases ho : H' c with
      | none => exact absurd ho hc
      | some o => exact Or.inl (by rw [hs c o ho]; simp)
    · exact Or.inr hc
  exact ⟨h.fresh, fun b o ho => h.data b o (hs b o ho), h.ctl, fun b c r m m' hb hc => h.inj b c r m m' (hl b hb) (hl c hc), fun b o ho => h.apart b o (hs b o ho)⟩

theorem Step.frame {KR : KRelT} {ρ ρ' : Ren} {H H' X : Nat → Option MObj} {K K' : Nat → Option LObj} {n n' : Nat} {w w' : World} (hr : Rel KR ρ (uni H X) K n w) (hX : ∀ b o, X b = some o → H b = none)
    (h : Step KR ρ H K n w ρ' H' K' n' w') : Step KR ρ (uni H X) K n w ρ' (uni H' X) K' n' w' := by
  have hHl : ∀ c, Live H K c → Live (uni H X) K c := by
    intro c hc
    rcases hc with hc | hc
    · refine Or.inl ?_
      unfold uni
      cases X c with
      | none => exact hc
      | some o => simp
    · exact Or.inr hc
  -- a block beside: where it lies
  have hXd : ∀ b o, X b = some o → ∃ r m x, ρ b = some (r, m) ∧ w.heap[r]? = some x ∧ ORel ρ m o x := by
    intro b o hb
    exact hr.data b o (by simp [uni, hb])
  have hXl : ∀ b o, X b = some o → Live (uni H X) K b := fun b o hb => Or.inl (by simp [uni, hb])
  have hXn : ∀ b o, X b = some o → b < n := by
    intro b o hb
    obtain ⟨r, m, x, h1, _⟩ := hXd b o hb
    by_cases hlt : b < n
    · exact hlt
    · rw [hr.fresh b (by omega)] at h1; cases h1
  have hXnl : ∀ b o, X b = some o → ¬ Live H K b := by
    intro b o hb hl
    rcases hl with hl | hl
    · exact hl (hX b o hb)
    · exact hl (hr.apart b o (by simp [uni, hb]))
  have hXk : ∀ b o r m x, X b = some o → ρ b = some (r, m) → w.heap[r]? = some x → w'.heap[r]? = some x := by
    intro b o r m x hb h1 h2
    refine h.keep r x h2 fun c m' hc e => ?_
    have := hr.inj c b r m' m (hHl c hc) (hXl b o hb) e h1
    subst this
    exact hXnl _ o hb hc
  have hXd' : ∀ b o, X b = some o → ∃ r m x, ρ' b = some (r, m) ∧ w'.heap[r]? = some x ∧ ORel ρ' m o x ∧ ρ b = some (r, m) := by
    intro b o hb
    obtain ⟨r, m, x, h1, h2, h3⟩ := hXd b o hb
    exact ⟨r, m, x, h.sub _ _ h1, hXk b o r m x hb h1 h2, h3.mono h.sub, h1⟩
  have hlive' : ∀ c, Live (uni H' X) K' c → (∃ o, X c = some o) ∨ Live H' K' c := by
    intro c hc
    rcases hc with hc | hc
    · unfold uni at hc
      cases hx : X c with
      | none => rw [hx] at hc; exact Or.inr (Or.inl hc)
      | some o => exact Or.inl ⟨o, rfl⟩
    · exact Or.inr (Or.inr hc)
  -- a block of the new memory never lies where one beside lies
  have hapart : ∀ c b o r m m', Live H' K' c → X b = some o → ρ' c = some (r, m) → ρ' b = some (r, m') → False := by
    intro c b o r m m' hc hb e1 e2
    obtain ⟨r2, m2, x2, g1, g2, g3⟩ := hXd b o hb
    have e3 := h.sub _ _ g1
    rw [e2] at e3
    simp only [Option.some.injEq, Prod.mk.injEq] at e3
    obtain ⟨rfl, rfl⟩ := e3
    rcases h.own c r m hc e1 with h1 | ⟨d, m3, h1, h2⟩
    · have := get_lt g2; omega
    · have := hr.inj d b r m3 m' (hHl d h1) (hXl b o hb) h2 g1
      subst this
      exact hXnl _ o hb h1
  have hnot : ∀ b o, X b = some o → ¬ Live H' K' b := by
    intro b o hb hl
    obtain ⟨r, m, x, g1, g2, _, _⟩ := hXd' b o hb
    exact hapart b b o r m m hl hb g1 g1
  refine ⟨h.sub, ⟨h.rel.fresh, fun b o ho => ?_, h.rel.ctl, fun b c r m m' hb hc e1 e2 => ?_, fun b o ho => ?_⟩, h.le, h.size, h.tape, h.os, h.output, fun b hb => ?_, fun b r m hb e => ?_, fun r x hx hn => ?_, h.old⟩
  · unfold uni at ho
    cases hx : X b with
    | none => rw [hx] at ho; exact h.rel.data b o ho
    | some o' =>
      rw [hx] at ho
      simp only [Option.some.injEq] at ho
      subst ho
      obtain ⟨r, m, x, g1, g2, g3, _⟩ := hXd' b o' hx
      exact ⟨r, m, x, g1, g2, g3⟩
  · rcases hlive' b hb with ⟨o, hxb⟩ | hb' <;> rcases hlive' c hc with ⟨o', hxc⟩ | hc'
    · obtain ⟨r1, m1, x1, g1, _, _, g4⟩ := hXd' b o hxb
      obtain ⟨r2, m2, x2, g1', _, _, g4'⟩ := hXd' c o' hxc
      rw [e1] at g1
      rw [e2] at g1'
      simp only [Option.some.injEq, Prod.mk.injEq] at g1 g1'
      obtain ⟨rfl, rfl⟩ := g1
      obtain ⟨rfl, rfl⟩ := g1'
      exact hr.inj b c _ _ _ (hXl b o hxb) (hXl c o' hxc) g4 g4'
    · exact (hapart c b o r m' m hc' hxb e2 e1).elim
    · exact (hapart b c o' r m m' hb' hxc e1 e2).elim
    · exact h.rel.inj b c r m m' hb' hc' e1 e2
  · unfold uni at ho
    cases hx : X b with
    | none => rw [hx] at ho; exact h.rel.apart b o ho
    | some o' =>
      cases hk : K' b with
      | none => rfl
      | some l => exact (hnot b o' hx (Or.inr (by rw [hk]; simp))).elim
  · rcases hlive' b hb with ⟨o, hxb⟩ | hb'
    · exact Or.inl (hXl b o hxb)
    · rcases h.dom b hb' with h1 | h1
      · exact Or.inl (hHl b h1)
      · exact Or.inr h1
  · rcases hlive' b hb with ⟨o, hxb⟩ | hb'
    · obtain ⟨r1, m1, x1, g1, _, _, g4⟩ := hXd' b o hxb
      rw [e] at g1
      simp only [Option.some.injEq, Prod.mk.injEq] at g1
      obtain ⟨rfl, rfl⟩ := g1
      exact Or.inr ⟨b, _, hXl b o hxb, g4⟩
    · rcases h.own b r m hb' e with h1 | ⟨c, m', h1, h2⟩
      · exact Or.inl h1
      · exact Or.inr ⟨c, m', hHl c h1, h2⟩
  · exact h.keep r x hx fun c m' hc => hn c m' (hHl c hc)

/-- A new block under a number that was set apart. -/
theorem Step.allocAt {KR : KRelT} (hK : KMono KR) {ρ0 ρ : Ren} {H0 H : Nat → Option MObj} {K0 K : Nat → Option LObj} {n0 n : Nat} {w0 w : World} (h : Step KR ρ0 H0 K0 n0 w0 ρ H K n w) {b : Nat} (hb : ρ b = none) (h0 : n0 ≤ b) (hbn : b < n)
    {x : Obj} {m : Nat} {o : MObj} (ho : ORel ρ m o x) (w' : World) (hw : w'.heap = w.heap.push x) (ht : w'.tape = w.tape) (hos : w'.os = w.os) (hout : w'.output = w.output) :
    Step KR ρ0 H0 K0 n0 w0 (ext ρ b (w.heap.size, m)) (upd H b (some o)) K n w' := by
  have hsz := h.size
  refine ⟨h.sub.trans (ext_sub hb), h.rel.alloc hK hb ho n (Nat.le_refl _) hbn w' hw, h.le, by rw [hw]; simp; omega, ht.trans h.tape, hos.trans h.os, hout.trans h.output, fun c hc => ?_, fun c r m1 hc e => ?_, fun r y hy hn => ?_, fun c hc => ?_⟩
  · rcases live_upd hc with rfl | hc'
    · exact Or.inr h0
    · exact h.dom c hc'
  · rcases live_upd hc with rfl | hc'
    · rw [ext_same] at e
      simp only [Option.some.injEq, Prod.mk.injEq] at e
      exact Or.inl (by omega)
    · obtain ⟨r1, k1, y1, h1, _⟩ := h.rel.live_get hc'
      rw [ext_sub hb _ _ h1] at e
      simp only [Option.some.injEq, Prod.mk.injEq] at e
      obtain ⟨rfl, rfl⟩ := e
      exact h.own c _ _ hc' h1
  · have := h.keep r y hy hn
    rw [hw, Array.getElem?_push_lt (get_lt this)]
    obtain ⟨h1, h2⟩ := Array.getElem?_eq_some_iff.1 this
    rw [h2]
  · rw [ext_other (by omega)]
    exact h.old c hc

end
end Go.Cm

/-
  The C machine, part Da: regions without a fixed order: what is checked; what has been done ahead.
-/
namespace Go.Cm

section
variable {P : Program} {C : Cx}

/-! ### Equality of values, as it is asked -/

mutual
theorem CV.beq_eq : ∀ (x y : CV), CV.beq x y = true → x = y
  | .unk, y, h => by cases y <;> simp [CV.beq] at h ⊢
  | .bool a, y, h => by cases y <;> simp [CV.beq] at h ⊢; exact h
  | .int k a, y, h => by cases y <;> simp [CV.beq, kindEq_eq, intEq_eq] at h ⊢; exact h
  | .float k a, y, h => by
    cases y with
    | float l b => cases k <;> cases l <;> simp [CV.beq] at h ⊢ <;> exact h
    | _ => cases k <;> simp [CV.beq] at h
  | .str a, y, h => by cases y <;> simp [CV.beq, bytesEq_eq] at h ⊢; exact h
  | .nilptr, y, h => by cases y <;> simp [CV.beq] at h ⊢
  | .ptr a b, y, h => by cases y <;> simp [CV.beq] at h ⊢; exact h
  | .nilslice, y, h => by cases y <;> simp [CV.beq] at h ⊢
  | .emptysl, y, h => by cases y <;> simp [CV.beq] at h ⊢
  | .slice a b c d e, y, h => by
    cases y with
    | slice f g i j k => cases e <;> cases k <;> simp [CV.beq] at h ⊢ <;> (try exact ⟨h.1.1.1, h.1.1.2, h.1.2, h.2⟩) <;> (try exact ⟨h.1.1.1.1, h.1.1.1.2, h.1.1.2, h.1.2, h.2⟩)
    | _ => cases e <;> simp [CV.beq] at h
  | .nilmap, y, h => by cases y <;> simp [CV.beq] at h ⊢
  | .map a, y, h => by cases y <;> simp [CV.beq] at h ⊢; exact h
  | .func f a b, y, h => by
    cases y <;> simp [CV.beq] at h ⊢
    exact ⟨h.1.1, CV.beqs_eq _ _ h.1.2, CV.beqs_eq _ _ h.2⟩
  | .yield a, y, h => by cases y <;> simp [CV.beq] at h ⊢; exact h
  | .nilfunc, y, h => by cases y <;> simp [CV.beq] at h ⊢
  | .iface t v, y, h => by
    cases y <;> simp [CV.beq] at h ⊢
    exact ⟨h.1, CV.beq_eq _ _ h.2⟩
  | .niliface, y, h => by cases y <;> simp [CV.beq] at h ⊢
  | .agg xs, y, h => by
    cases y <;> simp [CV.beq] at h ⊢
    exact CV.beqs_eq _ _ h
  | .tuple xs, y, h => by
    cases y <;> simp [CV.beq] at h ⊢
    exact CV.beqs_eq _ _ h
theorem CV.beqs_eq : ∀ (xs ys : List CV), CV.beqs xs ys = true → xs = ys
  | [], [], _ => rfl
  | x :: xs, y :: ys, h => by
    simp [CV.beqs] at h
    rw [CV.beq_eq x y h.1, CV.beqs_eq xs ys h.2]
  | [], _ :: _, h => by simp [CV.beqs] at h
  | _ :: _, [], h => by simp [CV.beqs] at h
end

/-! ### Guards -/

def gOk (v : CV) (b : Bool) : Option Bool := match v with
  | .bool x => some (x == b)
  | .unk => none
  | _ => some false

theorem sGuard_eq (v : CV) (want : Bool) (yes no : Tree SR) : sGuard v want yes no = match gOk v want with
    | some true => yes
    | some false => no
    | none => .fail := by
  cases v <;> try rfl
  rename_i b
  cases b <;> cases want <;> rfl

/-- Is an operation to be done? -/
noncomputable def gWant (C : Cx) (ops : Array Oper) (g : Option (Nat × Bool)) (e : Env) : Option Bool := match g with
  | none => some true
  | some (j, b) => match (dstAt ops j).bind (slot C) with
    | some p => gOk (e.look .undef p) b
    | none => none

theorem guard_all {call : CallF} {rd : Option Nat} {ops : Array Oper} {d : List Bool} {g : Option (Nat × Bool)} {s : CStep} {k : Cont} {e : Env} {ds : List CDef} {p : Pend} {h : Heap} {c : Ctl} {n : Nat} {Q : SR → Prop}
    (hr : (runStep call rd (guardStep C ops d g s) k e ds p h c n).All Q) :
    (gWant C ops g e = some true ∧ (runStep call rd s k e ds p h c n).All Q) ∨ (gWant C ops g e = some false ∧ (k (e.put .undef d) ds p h c n).All Q) := by
  cases g with
  | none => exact Or.inl ⟨rfl, hr⟩
  | some g =>
    obtain ⟨j, b⟩ := g
    simp only [guardStep] at hr
    simp only [gWant]
    cases hj : (dstAt ops j).bind (slot C) with
    | none => rw [hj] at hr; exact hr.elim
    | some q =>
      rw [hj] at hr
      simp only at hr ⊢
      have hr' : (sGuard (e.look .undef q) b (runStep call rd s k e ds p h c n) (k (e.put .undef d) ds p h c n)).All Q := hr
      rw [sGuard_eq] at hr'
      cases hg : gOk (e.look .undef q) b with
      | none => rw [hg] at hr'; exact hr'.elim
      | some x => cases x <;> rw [hg] at hr'
                  · exact Or.inr ⟨rfl, hr'⟩
                  · exact Or.inl ⟨rfl, hr'⟩

theorem onlyIf_all {call : CallF} {rd : Option Nat} {ops : Array Oper} {g : Option (Nat × Bool)} {s : CStep} {k : Cont} {e : Env} {ds : List CDef} {p : Pend} {h : Heap} {c : Ctl} {n : Nat} {Q : SR → Prop}
    (hr : (runStep call rd (onlyIfStep C ops g s) k e ds p h c n).All Q) :
    (gWant C ops g e = some true ∧ (runStep call rd s k e ds p h c n).All Q) ∨ (gWant C ops g e = some false ∧ (k e ds p h c n).All Q) := by
  cases g with
  | none => exact Or.inl ⟨rfl, hr⟩
  | some g =>
    obtain ⟨j, b⟩ := g
    simp only [onlyIfStep] at hr
    simp only [gWant]
    cases hj : (dstAt ops j).bind (slot C) with
    | none => rw [hj] at hr; exact hr.elim
    | some q =>
      rw [hj] at hr
      simp only at hr ⊢
      have hr' : (sGuard (e.look .undef q) b (runStep call rd s k e ds p h c n) (k e ds p h c n)).All Q := hr
      rw [sGuard_eq] at hr'
      cases hg : gOk (e.look .undef q) b with
      | none => rw [hg] at hr'; exact hr'.elim
      | some x => cases x <;> rw [hg] at hr'
                  · exact Or.inr ⟨rfl, hr'⟩
                  · exact Or.inl ⟨rfl, hr'⟩

/-- As it is told here, so it is there. -/
theorem want_rel {S : Nat → Prop} {ρ : Ren} {e : Env} {a : Act} (hs : SRel C S ρ e a.tmps) {ops : Array Oper} {o : Oper} (hR : ∀ t, Reads ops o t → S t) {x : Bool} (h : gWant C ops o.guard e = some x) : Region.wanted o (yielded ops a.tmps) = x := by
  cases hg : o.guard with
  | none =>
    rw [hg] at h
    simp only [gWant, Option.some.injEq] at h
    subst h
    simp [Region.wanted, hg]
  | some g =>
    obtain ⟨j, b⟩ := g
    rw [hg] at h
    simp only [gWant] at h
    cases hj : (dstAt ops j).bind (slot C) with
    | none => rw [hj] at h; cases h
    | some q =>
      rw [hj] at h
      simp only at h
      obtain ⟨t, hj1, hj2⟩ := Option.bind_eq_some_iff.1 hj
      obtain ⟨ht, rfl⟩ := slot_some hj2
      have hv := hs.val t ht (hR t (Or.inr ⟨j, b, hg, hj1⟩))
      have hw := wanted_iff hs hg hj1 ht
      generalize e.look .undef (pth C t) = cv at h hv
      generalize a.tmps.getD t undef = rv at hv hw
      cases hv with
      | bool y =>
        simp only [gOk, Option.some.injEq] at h
        subst h
        rw [Bool.eq_iff_iff, hw]
        simp
      | unk v h1 => cases h
      | _ =>
        simp only [gOk, Option.some.injEq] at h
        subst h
        rw [Bool.eq_false_iff]
        intro hh
        have := hw.1 hh
        simp_all

/-! ### What is checked -/

theorem stageOf_ge (b : Nat) : ∀ (es : List Nat) (p r : Nat), r ≤ p → r ≤ stageOf b es p r
  | [], _, _, _ => Nat.le_refl _
  | e :: es, p, r, h => by
    unfold stageOf
    by_cases hb : b.testBit e = true
    · rw [if_pos hb]; exact Nat.le_trans (by omega) (stageOf_ge b es (p + 1) (p + 1) (Nat.le_refl _))
    · rw [if_neg hb]; exact stageOf_ge b es (p + 1) r (by omega)
theorem stageOf_after (b : Nat) : ∀ (es : List Nat) (p r q e : Nat), r ≤ p → es[q]? = some e → b.testBit e = true → p + q + 1 ≤ stageOf b es p r
  | [], _, _, _, _, _, h, _ => by simp at h
  | x :: es, p, r, 0, e, hr, h, hb => by
    simp at h
    subst h
    unfold stageOf
    rw [if_pos hb]
    exact stageOf_ge b es (p + 1) (p + 1) (Nat.le_refl _)
  | x :: es, p, r, q + 1, e, hr, h, hb => by
    unfold stageOf
    have := stageOf_after b es (p + 1) (if b.testBit x then p + 1 else r) q e (by split <;> omega) (by simpa using h) hb
    omega
theorem stageOf_le (b m : Nat) : ∀ (es : List Nat) (p r : Nat), r ≤ m → (∀ (q e : Nat), es[q]? = some e → b.testBit e = true → p + q < m) → stageOf b es p r ≤ m
  | [], _, _, h, _ => h
  | x :: es, p, r, h, hq => by
    unfold stageOf
    refine stageOf_le b m es (p + 1) _ ?_ (fun q e he hb => by have := hq (q + 1) e (by simpa using he) hb; omega)
    split
    · rename_i hb
      have := hq 0 x rfl hb
      omega
    · exact h

structure DrawCx (C : Cx) (ops : Array Oper) (ds : List DOp) : Prop where
  get : ∀ d ∈ ds, ops[d.i]? = some d.o
  act : ∀ d ∈ ds, d.act = .bad ∨ compOp C d.o.op = some d.act
  eff : ∀ d ∈ ds, d.eff = effOf d.o d.act
  bef : ∀ d ∈ ds, d.bef = (befL ops.toList []).getD d.i 0
  dst : ∀ d ∈ ds, dstOf C d.o.dst = some d.dst
  all : ∀ j, j < ops.size → ∃ d ∈ ds, d.i = j
  sorted : ds.Pairwise fun a b => a.i < b.i
  st : ∀ d ∈ ds, d.st = stageOf d.bef ((ds.filter (·.eff)).map (·.i)) 0 0
  ahead : ∀ d ∈ ds, ∀ e ∈ d.o.after.toList, Region.binds .any e = true → e.on < d.i
  slot1 : ∀ d ∈ ds, ∀ k ∈ ds, ∀ t, d.o.dst = some t → k.o.dst = some t → d = k
  clash : ∀ d ∈ ds, ∀ k ∈ ds, ∀ t, Reads ops d.o t → k.o.dst = some t → clashOk d k = true
  chain : chainOk (ds.filter (·.eff)) = true

theorem sorted_uniq {ds : List DOp} (h : ds.Pairwise fun a b => a.i < b.i) : ∀ d ∈ ds, ∀ k ∈ ds, d.i = k.i → d = k := by
  induction ds with
  | nil => intro d hd; simp at hd
  | cons x xs ih =>
    rw [List.pairwise_cons] at h
    intro d hd k hk e
    rcases List.mem_cons.1 hd with rfl | hd' <;> rcases List.mem_cons.1 hk with rfl | hk'
    · rfl
    · have := h.1 k hk'; omega
    · have := h.1 d hd'; omega
    · exact ih h.2 d hd' k hk' e

theorem mem_tmpsOf {l : List Operand} {t : Nat} : t ∈ tmpsOf l ↔ .tmp t ∈ l := by
  unfold tmpsOf
  rw [List.mem_filterMap]
  constructor
  · rintro ⟨x, hx, h⟩
    cases x <;> simp at h
    subst h
    exact hx
  · intro h
    exact ⟨_, h, rfl⟩

theorem mem_readsOf {ops : Array Oper} {o : Oper} {t : Nat} : t ∈ readsOf ops o ↔ Reads ops o t := by
  unfold readsOf Reads
  rw [List.mem_append, mem_tmpsOf, Array.mem_toList_iff]
  constructor
  · rintro (h | h)
    · exact Or.inl h
    · right
      cases hg : o.guard with
      | none => rw [hg] at h; simp at h
      | some g =>
        obtain ⟨j, b⟩ := g
        rw [hg] at h
        simp at h
        exact ⟨j, b, rfl, h⟩
  · rintro (h | ⟨j, b, h1, h2⟩)
    · exact Or.inl h
    · right
      rw [h1]
      simp [h2]

theorem dopsFrom_mem {bs : List Nat} : ∀ (l : List Oper) (i : Nat) (d : DOp), d ∈ dopsFrom C bs i l → ∃ (j : Nat) (o : Oper), l[j]? = some o ∧ d = dop C (i + j) o (bs.getD (i + j) 0)
  | [], _, _, h => by simp [dopsFrom] at h
  | o :: l, i, d, h => by
    simp only [dopsFrom, List.mem_cons] at h
    rcases h with rfl | h
    · exact ⟨0, o, rfl, rfl⟩
    · obtain ⟨j, o', h1, h2⟩ := dopsFrom_mem l (i + 1) d h
      exact ⟨j + 1, o', by simpa using h1, by rw [h2, Nat.add_assoc, Nat.add_comm 1 j]⟩
theorem dopsFrom_all {bs : List Nat} : ∀ (l : List Oper) (i j : Nat) (o : Oper), l[j]? = some o → ∃ d ∈ dopsFrom C bs i l, d.i = i + j
  | [], _, _, _, h => by simp at h
  | o :: l, i, 0, o', h => ⟨_, by simp [dopsFrom]; exact Or.inl rfl, rfl⟩
  | o :: l, i, j + 1, o', h => by
    obtain ⟨d, h1, h2⟩ := dopsFrom_all (bs := bs) l (i + 1) j o' (by simpa using h)
    exact ⟨d, by simp [dopsFrom, h1], by omega⟩
theorem dopsFrom_sorted {bs : List Nat} : ∀ (l : List Oper) (i : Nat), (dopsFrom C bs i l).Pairwise fun a b => a.i < b.i
  | [], _ => by simp [dopsFrom]
  | o :: l, i => by
    simp only [dopsFrom, List.pairwise_cons]
    refine ⟨fun d hd => ?_, dopsFrom_sorted l (i + 1)⟩
    obtain ⟨j, o', _, rfl⟩ := dopsFrom_mem l (i + 1) d hd
    show i < i + 1 + j
    omega

theorem staged_filter (es : List Nat) (raw : List DOp) : ((raw.map (staged es)).filter (·.eff)).map (·.i) = (raw.filter (·.eff)).map (·.i) := by
  induction raw with
  | nil => rfl
  | cons x xs ih =>
    simp only [List.map_cons, List.filter_cons]
    have : (staged es x).eff = x.eff := rfl
    rw [this]
    cases x.eff
    · simpa using ih
    · simp only [if_true, List.map_cons]
      rw [ih]
      rfl

theorem drawCx (ops : Array Oper) (h1 : (dopsOf C ops).all (dopOk C ops (dopsOf C ops)) = true) (h2 : chainOk ((dopsOf C ops).filter (·.eff)) = true) : DrawCx C ops (dopsOf C ops) := by
  have hmem : ∀ d ∈ dopsOf C ops, ∃ (j : Nat) (o : Oper), ops[j]? = some o ∧ d = staged (((dopsFrom C (befL ops.toList []) 0 ops.toList).filter (·.eff)).map (·.i)) (dop C j o ((befL ops.toList []).getD j 0)) := by
    intro d hd
    unfold dopsOf at hd
    obtain ⟨d', hd', rfl⟩ := List.mem_map.1 hd
    obtain ⟨j, o, g1, rfl⟩ := dopsFrom_mem _ _ _ hd'
    exact ⟨j, o, by simpa using g1, by simp⟩
  have hsorted : (dopsOf C ops).Pairwise fun a b => a.i < b.i := by
    unfold dopsOf
    exact (dopsFrom_sorted _ _).map _ fun a b h => h
  have hchk : ∀ d ∈ dopsOf C ops, dopOk C ops (dopsOf C ops) d = true := List.all_eq_true.1 h1
  refine { get := ?_, act := ?_, eff := ?_, bef := ?_, dst := ?_, all := ?_, sorted := hsorted, st := ?_, ahead := ?_, slot1 := ?_, clash := ?_, chain := h2 }
  · intro d hd
    obtain ⟨j, o, g1, rfl⟩ := hmem d hd
    exact g1
  · intro d hd
    obtain ⟨j, o, g1, rfl⟩ := hmem d hd
    show (compOp C o.op).getD .bad = .bad ∨ compOp C o.op = some ((compOp C o.op).getD .bad)
    cases compOp C o.op <;> simp
  · intro d hd
    obtain ⟨j, o, g1, rfl⟩ := hmem d hd
    rfl
  · intro d hd
    obtain ⟨j, o, g1, rfl⟩ := hmem d hd
    rfl
  · intro d hd
    have hc := hchk d hd
    obtain ⟨j, o, g1, rfl⟩ := hmem d hd
    simp only [dopOk, Bool.and_eq_true] at hc
    have hc1 : (dstOf C o.dst).isSome = true := hc.1.1.1
    show dstOf C o.dst = some ((dstOf C o.dst).getD [])
    cases hq : dstOf C o.dst with
    | none => rw [hq] at hc1; cases hc1
    | some q => rfl
  · intro j hj
    obtain ⟨d, hd, hi⟩ := dopsFrom_all (C := C) (bs := befL ops.toList []) ops.toList 0 j ops[j] (by simp [hj])
    exact ⟨_, List.mem_map.2 ⟨d, hd, rfl⟩, by show d.i = j; omega⟩
  · intro d hd
    have e1 : ((dopsOf C ops).filter (·.eff)).map (·.i) = ((dopsFrom C (befL ops.toList []) 0 ops.toList).filter (·.eff)).map (·.i) := staged_filter _ _
    rw [e1]
    obtain ⟨j, o, g1, rfl⟩ := hmem d hd
    rfl
  · intro d hd e he hb
    have hc := hchk d hd
    simp only [dopOk, Bool.and_eq_true] at hc
    have := List.all_eq_true.1 hc.1.1.2 e he
    simp only [hb, Bool.not_true, Bool.false_or, nat_blt_eq, decide_eq_true_eq] at this
    exact this
  · intro d hd k hk t hdt hkt
    have hc := hchk d hd
    simp only [dopOk, Bool.and_eq_true] at hc
    have := hc.1.2
    rw [hdt] at this
    have := List.all_eq_true.1 this k hk
    simp only [sameSlot, hkt, nat_beq_eq, Bool.or_eq_true, decide_eq_true_eq, decide_true, Bool.not_true, Bool.false_eq_true, or_false] at this
    exact (sorted_uniq hsorted k hk d hd this).symm
  · intro d hd k hk t hr hkt
    have hc := hchk d hd
    simp only [dopOk, Bool.and_eq_true] at hc
    have := List.all_eq_true.1 hc.2 t (mem_readsOf.2 hr)
    have := List.all_eq_true.1 this k hk
    simpa [sameSlot, hkt, nat_beq_eq] using this

end
end Go.Cm
