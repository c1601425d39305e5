import Derived.Laws.BytesString
import Derived.Laws.Tables
import Derived.Test.YtdagpgccjamkmaaC0
/-
  The C machine, part H: equality, and the keys of maps.
-/
namespace Go.Cm

section
variable {P : Program} {C : Cx}

theorem VRel.float_inv {ρ : Ren} {v : Value} {k : FloatKind} {n : Nat} (h : VRel ρ (.float k n) v) : v = .float k n := by cases h; rfl

theorem fl_sound {op : BinOp} {x y : Nat} {t : TypeId} {v : CV} (h : flBin op (.float .f64 x) (.float .f64 y) = some v) (w : World) :
    ∃ v', (binOp op t (.float .f64 x) (.float .f64 y)).run P w = .ok v' w ∧ ∀ ρ, VRel ρ v v' := by
  cases op <;> simp only [flBin, flCmp, Option.some.injEq, reduceCtorEq] at h
  case add => cases hr : FloatKind.f64.format.add x y <;> simp [hr, fl64] at h; subst h; exact ⟨_, by simp [binOp, Op.floatArith, hr], fun ρ => .float _ _⟩
  case sub => cases hr : FloatKind.f64.format.sub x y <;> simp [hr, fl64] at h; subst h; exact ⟨_, by simp [binOp, Op.floatArith, hr], fun ρ => .float _ _⟩
  case mul => cases hr : FloatKind.f64.format.mul x y <;> simp [hr, fl64] at h; subst h; exact ⟨_, by simp [binOp, Op.floatArith, hr], fun ρ => .float _ _⟩
  case quo => cases hr : FloatKind.f64.format.div x y <;> simp [hr, fl64] at h; subst h; exact ⟨_, by simp [binOp, Op.floatArith, hr], fun ρ => .float _ _⟩
  all_goals subst h; exact ⟨_, by simp [binOp, Op.floatCmp], fun ρ => .bool _⟩

theorem flBin_some {op : BinOp} {x y v : CV} (h : flBin op x y = some v) : ∃ a b, x = .float .f64 a ∧ y = .float .f64 b := by
  unfold flBin at h
  split at h
  · exact ⟨_, _, rfl, rfl⟩
  · cases h

theorem bin_fl_sound {op : BinOp} {t s : TypeId} {x y : Operand} {x' y' : COpd} (hx : opd C x = some x') (hy : opd C y = some y') : PSound P C (.binOp op t x y s) (pFl op x' y') := by
  intro S ρ e a w v o hs hg hR ho hf
  have h1 := opd_rel hs hg hR (by simp [Op.operands]) hx
  have h2 := opd_rel hs hg hR (by simp [Op.operands]) hy
  obtain ⟨m, n, e1, e2⟩ := flBin_some hf
  simp only [pFl, e1, e2] at hf
  rw [e1] at h1; rw [e2] at h2
  obtain ⟨v', hr, hv⟩ := fl_sound (P := P) (t := t) hf w
  exact ⟨v', .now (exec_bin ho a w (by rw [h1.float_inv, h2.float_inv]; exact run_eqGuard_float ..) (by rw [h1.float_inv, h2.float_inv]; exact hr)), hv ρ⟩

/-! Types of the table. -/

theorem CxOk.under (hC : CxOk P C) {t : Nat} {i : TI} (h : C.ti t = some i) : P.underlying t = some i.under := let ⟨_, _, h, _⟩ := hC.ti t i h; h
theorem CxOk.run_size (hC : CxOk P C) {t : Nat} {i : TI} (h : C.ti t = some i) (w : World) : (sizeOf t).run P w = .ok i.size w := by
  obtain ⟨inf, h1, _, h2, _⟩ := hC.ti t i h
  simp [sizeOf, typeInfo, h1, h2]
theorem CxOk.run_info (hC : CxOk P C) {t : Nat} {i : TI} (h : C.ti t = some i) (w : World) : ∃ inf, (typeInfo t).run P w = .ok inf w ∧ inf.size = i.size ∧ inf.bytes = i.bytes ∧ inf.comparable = i.cmp ∧ i.zero = inf.zero.bind cvOf := by
  obtain ⟨inf, h1, _, h2⟩ := hC.ti t i h
  exact ⟨inf, by simp [typeInfo, h1], h2⟩
theorem CxOk.run_zero (hC : CxOk P C) {t : Nat} {i : TI} (h : C.ti t = some i) {z : CV} (hz : i.zero = some z) (w : World) : ∃ v, (zeroValue t).run P w = .ok v w ∧ ∀ ρ, VRel ρ z v := by
  obtain ⟨inf, h1, _, _, _, _, h2⟩ := hC.ti t i h
  rw [hz] at h2
  cases hv : inf.zero with
  | none => simp [hv] at h2
  | some v => exact ⟨v, by simp [zeroValue, typeInfo, h1, hv], fun ρ => cvOf_rel ρ v z (by simpa [hv] using h2.symm)⟩

theorem run_isAgg {t : Nat} {d : TypeDesc} (h : P.underlying t = some d) (w : World) : (isAgg t).run P w = .ok (isAggD d) w := by
  simp only [isAgg, Sem.run_bind, run_underlying h, Result.andThen_ok]
  cases d <;> rfl

/-- A value of a type, by its cells. -/
def Shaped (d : TypeDesc) (cs : List Value) (X : Value) : Prop := (isAggD d = true ∧ X = .agg cs.toArray) ∨ (isAggD d = false ∧ cs = [X])

theorem run_part (hC : CxOk P C) {t : Nat} {i : TI} (h : C.ti t = some i) (cs : Array Value) (off : Nat) (w : World) (hs : isAggD i.under = false → ∃ v, (cs.toList.drop off).take i.size = [v]) :
    ∃ X, (part t cs off).run P w = .ok X w ∧ Shaped i.under ((cs.toList.drop off).take i.size) X := by
  simp only [part, Sem.run_bind, run_isAgg (hC.under h), Result.andThen_ok]
  cases ha : isAggD i.under with
  | true =>
    simp only [if_true, Sem.run_bind, hC.run_size h, Result.andThen_ok]
    refine ⟨_, rfl, Or.inl ⟨ha, ?_⟩⟩
    congr 1
    apply Array.ext'
    simp [List.take_drop]
  | false =>
    obtain ⟨v, hv⟩ := hs ha
    have : cs[off]? = some v := by
      have h1 : ((cs.toList.drop off).take i.size)[0]? = some v := by rw [hv]; rfl
      rw [List.getElem?_take] at h1
      split at h1
      · simpa using h1
      · cases h1
    simp only [Bool.false_eq_true, if_false, this]
    exact ⟨v, rfl, Or.inr ⟨ha, hv⟩⟩

/-! Flat values. -/

theorem flatEqs_nil {x y : List CV} {b : Bool} (h : flatEqs [] x y = some b) : x = [] ∧ y = [] ∧ b = true := by
  cases x <;> cases y <;> first | (cases h; exact ⟨rfl, rfl, rfl⟩) | cases h
theorem flatEqs_cons {s : FS} {sh : List FS} {x y : List CV} {b : Bool} (h : flatEqs (s :: sh) x y = some b) :
    ∃ c x' d y' r, x = c :: x' ∧ y = d :: y' ∧ flatEq s c d = some r ∧ (r = true → flatEqs sh x' y' = some b) ∧ (r = false → b = false) := by
  cases x with
  | nil => cases h
  | cons c x => cases y with
    | nil => cases h
    | cons d y =>
      change Option.rec (motive := fun _ => Option Bool) none (fun r => cnd r (flatEqs sh x y) (some false)) (flatEq s c d) = some b at h
      obtain ⟨r, hr, h⟩ := rec_some.1 h
      refine ⟨c, x, d, y, r, rfl, rfl, hr, fun e => by subst e; exact h, fun e => by subst e; simpa [cnd] using h.symm⟩
theorem flatEqs_app : ∀ {s1 s2 : List FS} {x y : List CV} {b : Bool}, flatEqs (s1 ++ s2) x y = some b →
    ∃ r, flatEqs s1 (x.take s1.length) (y.take s1.length) = some r ∧ (r = true → flatEqs s2 (x.drop s1.length) (y.drop s1.length) = some b) ∧ (r = false → b = false)
  | [], s2, x, y, b, h => ⟨true, by simp; rfl, fun _ => by simpa using h, fun h => by cases h⟩
  | s :: s1, s2, x, y, b, h => by
    obtain ⟨c, x', d, y', r, rfl, rfl, h1, h2, h3⟩ := flatEqs_cons h
    cases r with
    | false => exact ⟨false, by show Option.rec (motive := fun _ => Option Bool) none _ (flatEq s c d) = _; rw [h1]; rfl, fun h => by (cases h), fun _ => h3 rfl⟩
    | true =>
      obtain ⟨r, i1, i2, i3⟩ := flatEqs_app (h2 rfl)
      exact ⟨r, by show Option.rec (motive := fun _ => Option Bool) none _ (flatEq s c d) = _; rw [h1]; exact i1, by simpa using i2, i3⟩
theorem flatEqs_len : ∀ {sh : List FS} {x y : List CV}, flatEqs sh x y = some true → x.length = sh.length ∧ y.length = sh.length
  | [], x, y, h => by obtain ⟨rfl, rfl, _⟩ := flatEqs_nil h; simp
  | s :: sh, x, y, h => by
    obtain ⟨c, x', d, y', r, rfl, rfl, _, h2, h3⟩ := flatEqs_cons h
    cases r with
    | false => have := h3 rfl; simp at this
    | true => have := flatEqs_len (h2 rfl); simp [this]

theorem flatEq_bool {c d : CV} {b : Bool} (h : flatEq .bool c d = some b) : ∃ x y, c = .bool x ∧ d = .bool y ∧ b = (x == y) := by
  rcases asBool_some.1 h with ⟨rfl, h1⟩ | ⟨rfl, h1⟩ <;> rcases asBool_some.1 h1 with ⟨rfl, h2⟩ | ⟨rfl, h2⟩ <;> exact ⟨_, _, rfl, rfl, by simpa using h2.symm⟩
theorem flatEq_int {c d : CV} {b : Bool} (h : flatEq .int c d = some b) : ∃ k x y, c = .int k x ∧ d = .int k y ∧ b = decide (x = y) := by
  obtain ⟨k, x, rfl, h1⟩ := asInt_some.1 h
  obtain ⟨l, y, rfl, h2⟩ := asInt_some.1 h1
  obtain ⟨hk, h3⟩ := cnd_some.1 h2
  rw [kindEq_eq, decide_eq_true_eq] at hk
  subst hk
  exact ⟨k, x, y, rfl, rfl, by rw [intEq_eq] at h3; simpa using h3.symm⟩
theorem flatEq_str {c d : CV} {b : Bool} (h : flatEq .str c d = some b) : ∃ x y, c = .str x ∧ d = .str y ∧ b = bytesEq x y := by
  obtain ⟨x, rfl, h1⟩ := asStr_some.1 h
  obtain ⟨y, rfl, h2⟩ := asStr_some.1 h1
  exact ⟨x, y, rfl, rfl, by simpa using h2.symm⟩

theorem LRel.one {ρ : Ren} {c : CV} {us : List Value} (h : LRel ρ [c] us) : ∃ v, us = [v] ∧ VRel ρ c v := by
  obtain ⟨v, vs, rfl, hv, ht⟩ := h.cons_left
  exact ⟨v, by rw [ht.nil_left], hv⟩

theorem flatFields_sound (hC : CxOk P C) (go : Nat → Option (List FS)) (D : Nat) (ρ : Ren) (xs ys : List CV) (us vs : Array Value) (hx : LRel ρ xs us.toList) (hy : LRel ρ ys vs.toList) (w : World)
    (ih : ∀ t sh i, go t = some sh → C.ti t = some i → ∀ (xs ys : List CV) (us vs : List Value) (b : Bool) (X Y : Value), LRel ρ xs us → LRel ρ ys vs → flatEqs sh xs ys = some b → Shaped i.under us X → Shaped i.under vs Y →
      (Op.equalIn D t X Y).run P w = .ok b w) (ih2 : ∀ t sh i, go t = some sh → C.ti t = some i → isAggD i.under = false → sh.length = 1) :
    ∀ (fs : List Field) (off : Nat) (sh : List FS) (b : Bool), flatFields C go off fs = some sh → flatEqs sh (xs.drop off) (ys.drop off) = some b → (Op.eqFields D us vs fs).run P w = .ok b w
  | [], off, sh, b, h, hb => by
    simp only [flatFields, Option.some.injEq] at h
    subst h
    obtain ⟨_, _, rfl⟩ := flatEqs_nil hb
    rfl
  | f :: fs, off, sh, b, h, hb => by
    unfold flatFields at h
    split at h
    · rename_i j sh1 e1 e2 e3
      split at h
      · rename_i rest e4 e5
        simp only [Option.some.injEq] at h
        subst h
        simp only [Bool.and_eq_true, bne_iff_ne, ne_eq] at e1
        obtain ⟨e1, e1'⟩ := e1
        have hoff : f.offset = off := by simpa using e1
        have hlen : sh1.length = j.size := by simpa using e4
        obtain ⟨r, h1, h2, h3⟩ := flatEqs_app hb
        have one : ∀ (zs : List CV) (ws : Array Value), LRel ρ zs ws.toList → (∃ c, (zs.drop off).take sh1.length = [c]) → ∃ v, (ws.toList.drop off).take j.size = [v] := by
          intro zs ws hz ⟨c, hc⟩
          have := (hz.drop off).take sh1.length
          rw [hc] at this
          obtain ⟨v, hv, _⟩ := this.one
          exact ⟨v, hlen ▸ hv⟩
        have ones : isAggD j.under = false → (∃ c, (xs.drop off).take sh1.length = [c]) ∧ ∃ c, (ys.drop off).take sh1.length = [c] := by
          intro ha
          have hl := ih2 _ _ _ e3 e2 ha
          obtain ⟨s, hs⟩ := List.length_eq_one_iff.1 hl
          rw [hs] at h1
          obtain ⟨c, x', d, y', r', g1, g2, _⟩ := flatEqs_cons h1
          have gx : ((xs.drop off).take 1) = [c] := by
            have : (xs.drop off).take 1 = c :: x' := g1
            have hl := congrArg List.length this
            simp at hl
            have : x'.length = 0 := by omega
            rw [‹(xs.drop off).take 1 = c :: x'›, List.length_eq_zero_iff.1 this]
          have gy : ((ys.drop off).take 1) = [d] := by
            have : (ys.drop off).take 1 = d :: y' := g2
            have hl := congrArg List.length this
            simp at hl
            have : y'.length = 0 := by omega
            rw [‹(ys.drop off).take 1 = d :: y'›, List.length_eq_zero_iff.1 this]
          rw [hl]
          exact ⟨⟨c, gx⟩, ⟨d, gy⟩⟩
        obtain ⟨X, hX, sX⟩ := run_part hC e2 us off w fun ha => one _ _ hx (ones ha).1
        obtain ⟨Y, hY, sY⟩ := run_part hC e2 vs off w fun ha => one _ _ hy (ones ha).2
        have key := ih _ _ _ e3 e2 _ _ _ _ r X Y ((hx.drop off).take sh1.length) ((hy.drop off).take sh1.length) h1 (hlen ▸ sX) (hlen ▸ sY)
        simp only [Op.eqFields, e1', ne_eq, not_false_eq_true, if_true, Sem.run_bind, hoff, hX, hY, key, Result.andThen_ok]
        cases r with
        | false => rw [h3 rfl]; rfl
        | true =>
          simp only [Bool.not_true, Bool.false_eq_true, if_false]
          exact flatFields_sound hC go D ρ xs ys us vs hx hy w ih ih2 fs (off + sh1.length) rest b e5 (by simpa [List.drop_drop] using h2 rfl)
      · cases h
    · cases h

theorem flat_len (d : Nat) : ∀ (t : Nat) (sh : List FS) (i : TI), flatShape C d t = some sh → C.ti t = some i → isAggD i.under = false → sh.length = 1 := by
  intro t sh i h hi ha
  cases d with
  | zero => cases h
  | succ d =>
    unfold flatShape at h
    rw [hi] at h
    simp only at h
    cases hu : i.under <;> rw [hu] at h ha <;> first | (cases h; rfl) | cases h | cases ha

theorem flat_sound (hC : CxOk P C) (ρ : Ren) (w : World) : ∀ (d : Nat) (D : Nat), d ≤ D → ∀ (t : Nat) (sh : List FS) (i : TI), flatShape C d t = some sh → C.ti t = some i →
    ∀ (xs ys : List CV) (us vs : List Value) (b : Bool) (X Y : Value), LRel ρ xs us → LRel ρ ys vs → flatEqs sh xs ys = some b → Shaped i.under us X → Shaped i.under vs Y →
      (Op.equalIn D t X Y).run P w = .ok b w
  | 0, _, _, _, _, _, h, _, _, _, _, _, _, _, _, _, _, _, _, _ => by cases h
  | d + 1, 0, hD, _, _, _, _, _, _, _, _, _, _, _, _, _, _, _, _, _ => by omega
  | d + 1, D + 1, hD, t, sh, i, h, hi, xs, ys, us, vs, b, X, Y, hx, hy, hb, sX, sY => by
    have hu := hC.under hi
    unfold flatShape at h
    rw [hi] at h
    simp only at h
    have one : ∀ s, sh = [s] → isAggD i.under = false → ∃ c d, flatEq s c d = some b ∧ VRel ρ c X ∧ VRel ρ d Y := by
      intro s hs ha
      subst hs
      obtain ⟨c, x', d, y', r, rfl, rfl, h1, h2, h3⟩ := flatEqs_cons hb
      rcases sX with ⟨h, _⟩ | ⟨_, rfl⟩
      · rw [ha] at h; cases h
      · rcases sY with ⟨h, _⟩ | ⟨_, rfl⟩
        · rw [ha] at h; cases h
        · obtain ⟨hc, hx'⟩ := LRel.cons_iff.1 hx
          obtain ⟨hd, hy'⟩ := LRel.cons_iff.1 hy
          refine ⟨c, d, ?_, hc, hd⟩
          cases r with
          | false => rw [h3 rfl]; exact h1
          | true => obtain ⟨_, _, rfl⟩ := flatEqs_nil (h2 rfl); exact h1
    cases hu' : i.under <;> rw [hu'] at h hu <;> simp only [reduceCtorEq, Option.some.injEq] at h
    case bool =>
      obtain ⟨c, e, h1, hc, he⟩ := one _ h.symm (by rw [hu']; rfl)
      obtain ⟨p, q, rfl, rfl, rfl⟩ := flatEq_bool h1
      rw [hc.bool_inv, he.bool_inv]
      exact run_equalIn_bool w D t p q hu
    case int k =>
      obtain ⟨c, e, h1, hc, he⟩ := one _ h.symm (by rw [hu']; rfl)
      obtain ⟨l, p, q, rfl, rfl, rfl⟩ := flatEq_int h1
      rw [hc.int_inv, he.int_inv, run_equalIn_int w D t l k p q hu]
      rfl
    case string =>
      obtain ⟨c, e, h1, hc, he⟩ := one _ h.symm (by rw [hu']; rfl)
      obtain ⟨p, q, rfl, rfl, rfl⟩ := flatEq_str h1
      obtain ⟨s1, rfl, rfl⟩ := hc.str_inv
      obtain ⟨s2, rfl, rfl⟩ := he.str_inv
      rw [run_equalIn_string w D t s1 s2 hu, bytes_eq]
    case struct fs =>
      cases hh : C.held t with
      | true => simp [hh] at h
      | false =>
        simp only [hh] at h
        rcases sX with ⟨_, rfl⟩ | ⟨ha, _⟩
        · rcases sY with ⟨_, rfl⟩ | ⟨ha, _⟩
          · have hf : P.fieldsOf t = fs := by simp [Program.fieldsOf, hu]
            rw [run_equalIn_struct w D t _ _ (by rw [hf]; exact hu) (hC.held t hh), hf]
            exact flatFields_sound hC (flatShape C d) D ρ xs ys _ _ (by simpa using hx) (by simpa using hy) w (fun t sh i h1 h2 => flat_sound hC ρ w d D (by omega) t sh i h1 h2)
              (flat_len d) fs.toList 0 sh b h (by simpa using hb)
          · rw [hu'] at ha; cases ha
        · rw [hu'] at ha; cases ha

theorem flat_guard (hC : CxOk P C) : ∀ (d D : Nat), d ≤ D → ∀ (t : Nat) (sh : List FS), flatShape C d t = some sh → P.eqGuardType D t = false
  | 0, _, _, _, _, h => by cases h
  | d + 1, 0, hD, _, _, _ => by omega
  | d + 1, D + 1, hD, t, sh, h => by
    unfold flatShape at h
    cases hi : C.ti t with
    | none => simp [hi] at h
    | some i =>
      simp only [hi] at h
      unfold Program.eqGuardType
      rw [hC.under hi]
      cases hu : i.under <;> simp only [hu, reduceCtorEq] at h ⊢
      case struct fs =>
        cases hh : C.held t with
        | true => simp [hh] at h
        | false =>
          simp only [hh] at h
          have key : ∀ (l : List Field) (off : Nat) (sh : List FS), flatFields C (flatShape C d) off l = some sh → ∀ f ∈ l, P.eqGuardType D f.type = false := by
            intro l
            induction l with
            | nil => intro _ _ _ f hf; simp at hf
            | cons f l ih =>
              intro off sh h g hg
              unfold flatFields at h
              split at h
              · rename_i j sh1 e1 e2 e3
                split at h
                · rename_i rest e4 e5
                  rcases List.mem_cons.1 hg with rfl | hg
                  · exact flat_guard hC d D (by omega) _ _ e3
                  · exact ih _ _ e5 g hg
                · cases h
              · cases h
          rw [Bool.eq_false_iff]
          intro hx
          rw [← Array.any_toList, List.any_eq_true] at hx
          obtain ⟨f, hf, hx⟩ := hx
          rw [key _ _ _ h f hf] at hx
          simp at hx

/-! '==' and '!='. -/

structure EqS (P : Program) (t : TypeId) (x y : Operand) (u v : Value) (b : Bool) (w : World) : Prop where
  guard : ∀ op, (eqGuard op t x y u v).run P w = .ok () w
  eql : (binOp .eql t u v).run P w = .ok (.bool b) w
  neq : (binOp .neq t u v).run P w = .ok (.bool (!b)) w

def EqSound (P : Program) (t : TypeId) (x y : Operand) (f : CV → CV → Option Bool) : Prop :=
  ∀ (ρ : Ren) (c d : CV) (u v : Value) (b : Bool) (w : World), VRel ρ c u → VRel ρ d v → f c d = some b → EqS P t x y u v b w

theorem eqS_of {t : TypeId} {x y : Operand} {u v : Value} {b : Bool} {w : World} (hg : ∀ op, (eqGuard op t x y u v).run P w = .ok () w)
    (he : binOp .eql t u v = (do pure (.bool (← Op.equal t u v)))) (hn : binOp .neq t u v = (do pure (.bool (!(← Op.equal t u v))))) (h : (Op.equalIn 10000 t u v).run P w = .ok b w) : EqS P t x y u v b w := by
  have : (Op.equal t u v).run P w = .ok b w := h
  exact ⟨hg, by rw [he]; simp [this], by rw [hn]; simp [this]⟩

theorem eqS_gen {t : TypeId} {x y : Operand} {u v : Value} {b : Bool} {w : World} (hg : ∀ op, (eqGuard op t x y u v).run P w = .ok () w)
    (he : binOp .eql t u v = (do pure (.bool (← Op.equal t u v)))) (hn : binOp .neq t u v = (do pure (.bool (!(← Op.equal t u v))))) (h : ∀ d, (Op.equalIn (d + 2) t u v).run P w = .ok b w) : EqS P t x y u v b w :=
  eqS_of hg he hn (h 9998)

theorem eq_bool_sound {t : TypeId} {x y : Operand} (ht : P.underlying t = some .bool) : EqSound P t x y (flatEq .bool) := by
  intro ρ c d u v b w hu hv h
  obtain ⟨p, q, rfl, rfl, rfl⟩ := flatEq_bool h
  rw [hu.bool_inv, hv.bool_inv]
  exact eqS_of (fun op => by unfold eqGuard; cases op <;> rfl) rfl rfl (run_equalIn_bool w 9999 t p q ht)

theorem eq_ptr_sound (hC : CxOk P C) {t el : TypeId} {x y : Operand} {j : TI} {n : Nat} (ht : P.underlying t = some (.pointer el)) (he : C.ti el = some j) (hn : j.size = n + 1) : EqSound P t x y samePtr := by
  intro ρ c d u v b w hu hv h
  have hs := hC.run_size he w
  cases c <;> simp only [samePtr, reduceCtorEq] at h
  case nilptr =>
    rw [hu.nilptr_inv]
    cases d <;> simp only [reduceCtorEq, Option.some.injEq] at h
    case nilptr =>
      subst h
      rw [hv.nilptr_inv]
      exact eqS_gen (fun op => by unfold eqGuard; cases op <;> rfl) rfl rfl (fun d => by rw [Op.equalIn]; simp only [Sem.run_bind, run_underlying ht, Result.andThen_ok]; rfl)
    case ptr b o =>
      subst h
      obtain ⟨r, m, rfl, hb⟩ := hv.ptr_inv
      exact eqS_gen (fun op => by unfold eqGuard; cases op <;> rfl) rfl rfl (fun d => by rw [Op.equalIn]; simp only [Sem.run_bind, run_underlying ht, Result.andThen_ok]; rfl)
  case ptr b o =>
    obtain ⟨r, m, rfl, hb⟩ := hu.ptr_inv
    cases d <;> simp only [reduceCtorEq, Option.some.injEq] at h
    case nilptr =>
      subst h
      rw [hv.nilptr_inv]
      exact eqS_gen (fun op => by unfold eqGuard; cases op <;> rfl) rfl rfl (fun d => by rw [Op.equalIn]; simp only [Sem.run_bind, run_underlying ht, Result.andThen_ok]; rfl)
    case ptr c p =>
      obtain ⟨h1, h2⟩ := cnd_some.1 h
      rw [nat_beq_eq, decide_eq_true_eq] at h1
      subst h1
      simp only [Option.some.injEq, nat_beq_eq] at h2
      subst h2
      obtain ⟨r', m', rfl, hb'⟩ := hv.ptr_inv
      rw [hb] at hb'
      simp only [Option.some.injEq, Prod.mk.injEq] at hb'
      obtain ⟨rfl, rfl⟩ := hb'
      refine eqS_gen (fun op => by unfold eqGuard; cases op <;> rfl) rfl rfl fun d => ?_
      rw [Op.equalIn]
      simp only [Sem.run_bind, run_underlying ht, Result.andThen_ok, hs, hn, ne_eq, Nat.add_one_ne_zero, not_false_eq_true, if_true, sameAddr, beq_self_eq_true]
      by_cases e : o = p
      · subst e; simp
      · simp [e]

theorem eq_slice_sound {t el : TypeId} {x y : Operand} (ht : P.underlying t = some (.slice el)) : EqSound P t x y sameSlice := by
  intro ρ c d u v b w hu hv h
  cases c <;> simp only [sameSlice, reduceCtorEq] at h
  case nilslice =>
    rw [hu.nilslice_inv]
    cases d <;> simp only [reduceCtorEq, Option.some.injEq] at h
    case nilslice => subst h; rw [hv.nilslice_inv]; exact eqS_gen (fun op => by unfold eqGuard; cases op <;> rfl) rfl rfl (fun d => by rw [Op.equalIn]; simp only [Sem.run_bind, run_underlying ht, Result.andThen_ok]; rfl)
    case emptysl => subst h; obtain ⟨a, k, rfl⟩ := hv.emptysl_inv; exact eqS_gen (fun op => by unfold eqGuard; cases op <;> rfl) rfl rfl (fun d => by rw [Op.equalIn]; simp only [Sem.run_bind, run_underlying ht, Result.andThen_ok]; rfl)
    case slice => subst h; obtain ⟨r, m, k, rfl, _⟩ := hv.slice_inv; exact eqS_gen (fun op => by unfold eqGuard; cases op <;> rfl) rfl rfl (fun d => by rw [Op.equalIn]; simp only [Sem.run_bind, run_underlying ht, Result.andThen_ok]; rfl)
  case emptysl =>
    obtain ⟨a, k, rfl⟩ := hu.emptysl_inv
    cases d <;> simp only [reduceCtorEq, Option.some.injEq] at h
    subst h; rw [hv.nilslice_inv]; exact eqS_gen (fun op => by unfold eqGuard; cases op <;> rfl) rfl rfl (fun d => by rw [Op.equalIn]; simp only [Sem.run_bind, run_underlying ht, Result.andThen_ok]; rfl)
  case slice =>
    obtain ⟨r, m, k, rfl, _⟩ := hu.slice_inv
    cases d <;> simp only [reduceCtorEq, Option.some.injEq] at h
    subst h; rw [hv.nilslice_inv]; exact eqS_gen (fun op => by unfold eqGuard; cases op <;> rfl) rfl rfl (fun d => by rw [Op.equalIn]; simp only [Sem.run_bind, run_underlying ht, Result.andThen_ok]; rfl)

theorem eq_map_sound {t k el : TypeId} {x y : Operand} (ht : P.underlying t = some (.map k el)) : EqSound P t x y sameMap := by
  intro ρ c d u v b w hu hv h
  cases c <;> simp only [sameMap, reduceCtorEq] at h
  case nilmap =>
    rw [hu.nilmap_inv]
    cases d <;> simp only [reduceCtorEq, Option.some.injEq] at h
    case nilmap => subst h; rw [hv.nilmap_inv]; exact eqS_gen (fun op => by unfold eqGuard; cases op <;> rfl) rfl rfl (fun d => by rw [Op.equalIn]; simp only [Sem.run_bind, run_underlying ht, Result.andThen_ok]; rfl)
    case map => subst h; obtain ⟨r, m, rfl, _⟩ := hv.map_inv; exact eqS_gen (fun op => by unfold eqGuard; cases op <;> rfl) rfl rfl (fun d => by rw [Op.equalIn]; simp only [Sem.run_bind, run_underlying ht, Result.andThen_ok]; rfl)
  case map =>
    obtain ⟨r, m, rfl, _⟩ := hu.map_inv
    cases d <;> simp only [reduceCtorEq, Option.some.injEq] at h
    subst h; rw [hv.nilmap_inv]; exact eqS_gen (fun op => by unfold eqGuard; cases op <;> rfl) rfl rfl (fun d => by rw [Op.equalIn]; simp only [Sem.run_bind, run_underlying ht, Result.andThen_ok]; rfl)

theorem eq_func_sound {t : TypeId} {ps rs : Array TypeId} {vr : Bool} {x y : Operand} (ht : P.underlying t = some (.func ps rs vr)) : EqSound P t x y sameFunc := by
  intro ρ c d u v b w hu hv h
  cases c <;> simp only [sameFunc, reduceCtorEq] at h
  case nilfunc =>
    rw [hu.nilfunc_inv]
    cases d <;> simp only [reduceCtorEq, Option.some.injEq] at h
    case nilfunc => subst h; rw [hv.nilfunc_inv]; exact eqS_gen (fun op => by unfold eqGuard; cases op <;> rfl) rfl rfl (fun d => by rw [Op.equalIn]; simp only [Sem.run_bind, run_underlying ht, Result.andThen_ok]; rfl)
    case func => subst h; obtain ⟨r, m, rfl, _⟩ := VRel.func_iff.1 hv; exact eqS_gen (fun op => by unfold eqGuard; cases op <;> rfl) rfl rfl (fun d => by rw [Op.equalIn]; simp only [Sem.run_bind, run_underlying ht, Result.andThen_ok]; rfl)
  case func =>
    obtain ⟨r, m, rfl, _⟩ := VRel.func_iff.1 hu
    cases d <;> simp only [reduceCtorEq, Option.some.injEq] at h
    subst h; rw [hv.nilfunc_inv]; exact eqS_gen (fun op => by unfold eqGuard; cases op <;> rfl) rfl rfl (fun d => by rw [Op.equalIn]; simp only [Sem.run_bind, run_underlying ht, Result.andThen_ok]; rfl)

theorem intTy_some {t : Nat} (h : intTy C t = true) : ∃ i k, C.ti t = some i ∧ i.under = .int k ∧ i.cmp = true := by
  unfold intTy at h
  cases hi : C.ti t with
  | none => simp [hi] at h
  | some i =>
    simp only [hi] at h
    cases hu : i.under <;> simp [hu] at h
    exact ⟨i, _, rfl, hu, h⟩

theorem eq_iface_sound (hC : CxOk P C) {t : TypeId} {ms : Array (String × TypeId)} {x y : Operand} (ht : P.underlying t = some (.interface ms)) : EqSound P t x y (sameIface (isConstOpd x || isConstOpd y) (intTy C)) := by
  intro ρ c d u v b w hu hv h
  cases c <;> simp only [sameIface, reduceCtorEq] at h
  case niliface =>
    rw [hu.niliface_inv]
    cases d <;> simp only [reduceCtorEq, Option.some.injEq, cnd_some] at h
    case niliface =>
      obtain ⟨hl, rfl⟩ := h
      rw [hv.niliface_inv]
      refine eqS_gen (fun op => ?_) rfl rfl (fun d => by rw [Op.equalIn]; simp only [Sem.run_bind, run_underlying ht, Result.andThen_ok]; rfl)
      unfold eqGuard
      cases op <;> first | rfl | skip
      all_goals
        rw [Bool.or_eq_true] at hl
        rcases hl with hl | hl
        · cases x <;> simp [isConstOpd] at hl
          rfl
        · cases y <;> simp [isConstOpd] at hl
          cases x <;> rfl
    case iface =>
      subst h
      obtain ⟨u', rfl, _⟩ := hv.iface_inv
      exact eqS_gen (fun op => by unfold eqGuard; cases op <;> rfl) rfl rfl (fun d => by rw [Op.equalIn]; simp only [Sem.run_bind, run_underlying ht, Result.andThen_ok]; rfl)
  case iface t1 c =>
    obtain ⟨u', rfl, hc⟩ := hu.iface_inv
    cases d <;> simp only [reduceCtorEq, Option.some.injEq] at h
    case niliface =>
      subst h
      rw [hv.niliface_inv]
      exact eqS_gen (fun op => by unfold eqGuard; cases op <;> rfl) rfl rfl (fun d => by rw [Op.equalIn]; simp only [Sem.run_bind, run_underlying ht, Result.andThen_ok]; rfl)
    case iface t2 d =>
      obtain ⟨v', rfl, hd⟩ := hv.iface_inv
      rw [nat_beq_eq] at h
      by_cases e : t1 = t2
      · subst e
        simp only [decide_true, cnd_true] at h
        obtain ⟨hi, h⟩ := cnd_some.1 h
        obtain ⟨i, k, hti, hk, hcmp⟩ := intTy_some hi
        obtain ⟨l, p, q, rfl, rfl, rfl⟩ := flatEq_int h
        rw [hc.int_inv, hd.int_inv]
        obtain ⟨inf, hinf, _, _, h3, _⟩ := hC.run_info hti w
        refine eqS_gen (fun op => by unfold eqGuard; cases op <;> rfl) rfl rfl fun d => ?_
        have := run_equalIn_int (P := P) w d t1 l k p q (by rw [hC.under hti, hk])
        rw [Op.equalIn]
        simp only [Sem.run_bind, run_underlying ht, Result.andThen_ok, ne_eq, not_true_eq_false, if_false, hinf, h3, hcmp, Bool.not_true, Bool.false_eq_true]
        rw [this]
        rfl
      · simp only [e, decide_false, cnd_false, Option.some.injEq] at h
        subst h
        refine eqS_gen (fun op => by unfold eqGuard; cases op <;> rfl) rfl rfl fun d => ?_
        rw [Op.equalIn]
        simp only [Sem.run_bind, run_underlying ht, Result.andThen_ok, ne_eq, e, not_false_eq_true, if_true]
        rfl

theorem eq_agg_sound (hC : CxOk P C) {t : TypeId} {i : TI} {sh : List FS} {x y : Operand} (hi : C.ti t = some i) (ha : isAggD i.under = true) (h : flatShape C 8 t = some sh) (hd : 8 ≤ P.depth) : EqSound P t x y (keyEq (.agg sh)) := by
  intro ρ c d u v b w hu hv hf
  obtain ⟨xs, rfl, h1⟩ := asAgg_some.1 hf
  obtain ⟨ys, rfl, h2⟩ := asAgg_some.1 h1
  obtain ⟨us, rfl, hx⟩ := VRel.agg_iff.1 hu
  obtain ⟨vs, rfl, hy⟩ := VRel.agg_iff.1 hv
  refine eqS_of (fun op => run_eqGuard_agg w op t x y us vs (flat_guard hC 8 P.depth hd t sh h)) rfl rfl ?_
  exact flat_sound hC ρ w 8 10000 (by omega) t sh i h hi xs ys us.toList vs.toList b _ _ hx hy h2 (Or.inl ⟨ha, rfl⟩) (Or.inl ⟨ha, rfl⟩)

theorem eqOf_sound (hC : CxOk P C) (hd : 8 ≤ P.depth) {t : TypeId} {i : TI} {x y : Operand} {f : CV → CV → Option Bool} (hi : C.ti t = some i) (h : eqOf C t i (isConstOpd x || isConstOpd y) = some f) : EqSound P t x y f := by
  have hu := hC.under hi
  unfold eqOf at h
  cases hu' : i.under <;> simp only [hu', reduceCtorEq, Option.some.injEq, Option.map_eq_some_iff] at h hu
  case bool => subst h; exact eq_bool_sound hu
  case pointer el =>
    cases hj : C.ti el with
    | none => simp [hj] at h
    | some j => cases hn : j.size with
      | zero => simp [hj, hn] at h
      | succ n => simp only [hj, hn, Option.some.injEq] at h; subst h; exact eq_ptr_sound hC hu hj hn
  case slice => subst h; exact eq_slice_sound hu
  case map => subst h; exact eq_map_sound hu
  case func => subst h; exact eq_func_sound hu
  case interface => subst h; exact eq_iface_sound hC hu
  case struct => obtain ⟨sh, h, rfl⟩ := h; exact eq_agg_sound hC hi (by rw [hu']; rfl) h hd

theorem eq_sound {t s : TypeId} {x y : Operand} {x' y' : COpd} {f : CV → CV → Option Bool} (want : Bool) (hx : opd C x = some x') (hy : opd C y = some y') (hf : EqSound P t x y f) :
    PSound P C (.binOp (if want then .eql else .neq) t x y s) (pEq f want x' y') := by
  intro S ρ e a w v o hs hg hR ho h
  have h1 := opd_rel hs hg hR (by simp [Op.operands]) hx
  have h2 := opd_rel hs hg hR (by simp [Op.operands]) hy
  obtain ⟨b, hb, h3⟩ := rec_some.1 h
  have hq := hf ρ _ _ _ _ b w h1 h2 hb
  simp only [Option.some.injEq] at h3
  subst h3
  cases want with
  | true => exact ⟨_, .now (exec_bin ho a w (hq.guard _) hq.eql), by cases b <;> exact .bool _⟩
  | false => exact ⟨_, .now (exec_bin ho a w (hq.guard _) hq.neq), by cases b <;> exact .bool _⟩

end
end Go.Cm

/-
  The C machine, part I: the other operations whose answer depends on the operands alone.
-/
namespace Go.Cm

section
variable {P : Program} {C : Cx}

/-! Rows of cells. -/

theorem setL_nil {α : Type} (l : List α) : ∀ n, setL [] l n = l := by
  induction l with
  | nil => intro n; rfl
  | cons a l ih => intro n; cases n with
    | zero => rfl
    | succ n => exact congrArg (a :: ·) (ih n)

theorem setL_eq' {α : Type} (v l : List α) (n : Nat) (h : n + v.length ≤ l.length) : setL v l n = l.take n ++ v ++ l.drop (n + v.length) := by
  cases v with
  | nil => rw [setL_nil]; simp
  | cons a v => exact setL_eq _ _ _ h (by simp)

theorem fold_lay (off : Nat) : ∀ (vs : List Value) (k : Nat) (cells : Array Value), off + k + vs.length ≤ cells.size →
    ((vs.zipIdx k).foldl (fun (cs : Array Value) (p : Value × Nat) => cs.setIfInBounds (off + p.2) p.1) cells).toList = cells.toList.take (off + k) ++ vs ++ cells.toList.drop (off + k + vs.length)
  | [], k, cells, h => by simp
  | v :: vs, k, cells, h => by
    simp only [List.zipIdx_cons, List.foldl_cons]
    have hk : off + k < cells.size := by simp at h; omega
    rw [fold_lay off vs (k + 1) _ (by simp at h ⊢; omega)]
    apply List.ext_getElem?
    intro i
    simp only [Array.toList_setIfInBounds, List.getElem?_append, List.length_append, List.length_take, List.length_set, Array.length_toList, List.getElem?_take, List.getElem?_set, List.getElem?_drop, List.length_cons]
    have e1 : min (off + (k + 1)) cells.size = off + k + 1 := by omega
    have e2 : min (off + k) cells.size = off + k := by omega
    simp only [e1, e2]
    by_cases h1 : i < off + k
    · have : off + k ≠ i := by omega
      simp [h1, this, show i < off + k + 1 by omega, show i < off + k + 1 + vs.length by omega, show i < off + (k + 1) by omega]
      intro h; omega
    · by_cases h2 : i = off + k
      · subst h2
        simp [hk, show off + k < off + k + 1 + vs.length by omega]
      · have h3 : ¬ i < off + k + 1 := by omega
        by_cases h4 : i < off + k + 1 + vs.length
        · have : i - (off + k) = (i - (off + k + 1)) + 1 := by omega
          simp [h1, h3, h4, show i < off + k + (vs.length + 1) by omega, this]
        · have h5 : ¬ i < off + k + (vs.length + 1) := by omega
          have h6 : off + k ≠ off + (k + 1) + vs.length + (i - (off + k + 1 + vs.length)) := by omega
          simp [h4, h5, h6]
          congr 1
          omega

theorem fold_lay_arr (off : Nat) (v cells : Array Value) (h : off + v.size ≤ cells.size) :
    (v.zipIdx.foldl (fun (cs : Array Value) (p : Value × Nat) => cs.setIfInBounds (off + p.2) p.1) cells).toList = cells.toList.take off ++ v.toList ++ cells.toList.drop (off + v.size) := by
  rw [← Array.foldl_toList, Array.toList_zipIdx, fold_lay off v.toList 0 cells (by simpa using h)]
  simp

def PRel (ρ : Ren) (place : Nat → Option (Nat × Nat)) : List (Nat × Nat × CV) → List (Nat × Value) → Prop
  | [], [] => True
  | p :: ps, v :: vs => (place v.1 = some (p.1, p.2.1) ∧ VRel ρ p.2.2 v.2) ∧ PRel ρ place ps vs
  | _, _ => False

theorem PRel.imp {ρ : Ren} {pl pl' : Nat → Option (Nat × Nat)} (h : ∀ k r, pl k = some r → pl' k = some r) : ∀ {ps : List (Nat × Nat × CV)} {vs : List (Nat × Value)}, PRel ρ pl ps vs → PRel ρ pl' ps vs
  | [], [], _ => trivial
  | _ :: _, _ :: _, hp => ⟨⟨h _ _ hp.1.1, hp.1.2⟩, hp.2.imp h⟩
  | [], _ :: _, hp => hp.elim
  | _ :: _, [], hp => hp.elim

theorem fill_rel {ρ : Ren} (place : Nat → Option (Nat × Nat)) : ∀ (ps : List (Nat × Nat × CV)) (vs : List (Nat × Value)) (cs cs' : List CV) (cells : Array Value),
    PRel ρ place ps vs → LRel ρ cs cells.toList → fillL ps cs = some cs' → ∃ cells', Instr.fill place cells vs = some cells' ∧ LRel ρ cs' cells'.toList
  | [], [], cs, cs', cells, _, hr, h => by
    have : some cs = some cs' := h
    simp only [Option.some.injEq] at this
    subst this
    exact ⟨cells, rfl, hr⟩
  | [], _ :: _, _, _, _, hp, _, _ => hp.elim
  | _ :: _, [], _, _, _, hp, _, _ => hp.elim
  | (off, n, v) :: ps, (k, u) :: vs, cs, cs', cells, hp, hr, h => by
    have h0 : cnd (Nat.beq (lenL v.cells) n) (cnd (lenGe cs (off + n)) (fillL ps (setL v.cells cs off)) none) none = some cs' := h
    obtain ⟨h1, h2⟩ := cnd_some.1 h0
    obtain ⟨h3, h4⟩ := cnd_some.1 h2
    obtain ⟨⟨hpl, hv⟩, hp⟩ := hp
    simp only at hpl hv
    have hc := hv.cells
    rw [nat_beq_eq, decide_eq_true_eq, lenL_eq] at h1
    rw [lenGe_eq, decide_eq_true_eq] at h3
    have hcl : v.cells.length = u.cells.size := by simpa using hc.1
    have hcs : cs.length = cells.size := by simpa using hr.1
    have hroom : off + u.cells.size ≤ cells.size := by omega
    unfold Instr.fill
    rw [hpl]
    simp only
    rw [if_neg (by simp; omega)]
    have key := fold_lay_arr off u.cells cells hroom
    refine fill_rel place ps vs _ _ _ hp ?_ h4
    rw [setL_eq' _ _ _ (by omega)]
    have e : (u.cells.zipIdx.foldl (fun (x : Array Value) (x_1 : Value × Nat) => match x_1 with | (c, j) => x.setIfInBounds (off + j) c) cells) = (u.cells.zipIdx.foldl (fun (cs : Array Value) (p : Value × Nat) => cs.setIfInBounds (off + p.2) p.1) cells) := rfl
    rw [e, key, hcl]
    exact ((hr.take off).append hc).append (hr.drop _)

def realParts (a : Act) (parts : List (Nat × Operand)) : List (Nat × Value) := parts.map fun p => (p.1, a.eval p.2)

theorem partsOf_rel {S : Nat → Prop} {ρ : Ren} {e : Env} {a : Act} (hs : SRel C S ρ e a.tmps) (hg : GRel C.ng ρ) {zs : Array Operand} (hr : ∀ t, .tmp t ∈ zs → S t) (place : Nat → Option (Nat × Nat)) :
    ∀ (parts : List (Nat × Operand)) (ps : List (Nat × Nat × COpd)), (∀ p ∈ parts, p.2 ∈ zs) → partsOf C place parts = some ps → PRel ρ place (mapL (evPart e) ps) (realParts a parts)
  | [], ps, _, h => by
    simp only [partsOf, Option.some.injEq] at h
    subst h
    trivial
  | (k, x) :: parts, ps, hz, h => by
    unfold partsOf at h
    split at h
    · rename_i off n y rest h1 h2 h3
      simp only [Option.some.injEq] at h
      subst h
      exact ⟨⟨h1, opd_rel hs hg hr (hz (k, x) (by simp)) h2⟩, partsOf_rel hs hg hr place parts rest (fun p hp => hz p (by simp [hp])) h3⟩
    · cases h

theorem zero_cells {i : TI} {z : List CV} (h : zeroCells i = some z) : ∃ c, i.zero = some c ∧ z = c.cells ∧ c.cells.length = i.size := by
  unfold zeroCells at h
  cases hz : i.zero with
  | none => simp [hz] at h
  | some c =>
    simp only [hz] at h
    cases hb : Nat.beq c.cells.length i.size <;> simp [hb] at h
    exact ⟨c, rfl, h.symm, by simpa using hb⟩

theorem CxOk.zero_some (hC : CxOk P C) {t : Nat} {i : TI} (h : C.ti t = some i) {c : CV} (hz : i.zero = some c) : ∃ inf v, P.info? t = some inf ∧ inf.zero = some v ∧ ∀ ρ, VRel ρ c v := by
  obtain ⟨inf, h1, _, _, _, _, h2⟩ := hC.ti t i h
  rw [hz] at h2
  cases hv : inf.zero with
  | none => simp [hv] at h2
  | some v => exact ⟨inf, v, h1, hv, fun ρ => cvOf_rel ρ v c (by simpa [hv] using h2.symm)⟩

theorem mapM_some {α β : Type} {f : α → Option β} : ∀ {l : List α}, (∀ x ∈ l, (f x).isSome = true) → ∃ r, l.mapM f = some r ∧ r.length = l.length ∧ ∀ (i : Nat) (h1 : i < l.length) (h2 : i < r.length), f l[i] = some r[i]
  | [], _ => ⟨[], rfl, rfl, fun i h => by simp at h⟩
  | x :: l, h => by
    obtain ⟨y, hy⟩ := Option.isSome_iff_exists.1 (h x (by simp))
    obtain ⟨r, hr, hl, ih⟩ := mapM_some (f := f) (l := l) (fun x hx => h x (by simp [hx]))
    refine ⟨y :: r, by simp [hy, hr], by simp [hl], fun i a b => ?_⟩
    cases i with
    | zero => exact hy
    | succ i => exact ih i (by simpa using a) (by simpa using b)

theorem compBuild_sound (hC : CxOk P C) {t : TypeId} {parts : Array (Nat × Operand)} {f : CAny} (h : compBuild C t parts.toList = some f) : ∃ g, f = .p g ∧ PSound P C (.build t parts) g := by
  unfold compBuild at h
  cases hi : C.ti t with
  | none => simp [hi] at h
  | some i =>
    simp only [hi] at h
    cases hz : zeroCells i with
    | none => simp [hz] at h
    | some z =>
      simp only [hz] at h
      obtain ⟨c, hc, rfl, hcl⟩ := zero_cells hz
      obtain ⟨inf, zv, hinf, hzv, hzr⟩ := hC.zero_some hi hc
      have main : ∀ (place place' : Nat → Option (Nat × Nat)) (ps : List (Nat × Nat × COpd)), partsOf C place parts.toList = some ps → (∀ k r, place k = some r → place' k = some r) →
          (∀ l, P.built t l = Instr.fill place' zv.cells l) → PSound P C (.build t parts) (pBuild c.cells ps) := by
        intro place place' ps hps hpl hbu S ρ e a w v o hs hg hR ho hf
        obtain ⟨cs, hcs, hv⟩ := rec_some.1 hf
        simp only [Option.some.injEq] at hv
        subst hv
        have hp := partsOf_rel hs hg hR place parts.toList ps (fun p hp => by
          simp only [Op.operands, List.mem_toArray, List.mem_map]
          exact ⟨p, hp, rfl⟩) hps
        obtain ⟨cells', h1, h2⟩ := fill_rel place' _ _ _ _ zv.cells (hp.imp hpl) (hzr ρ).cells hcs
        refine ⟨.agg cells', .now ?_, VRel.agg_iff.2 ⟨_, rfl, h2⟩⟩
        unfold execOp
        rw [ho]
        have hb : P.built t (parts.map fun (i, x) => (i, a.eval x)).toList = some cells' := by rw [hbu, ← h1, realParts, Array.toList_map]
        simp only [Sem.run_bind, run_build w t _ cells' hb, Result.andThen_ok]
        rfl
      have hu := hC.under hi
      cases hd : i.under <;> rw [hd] at h hu <;> simp only [reduceCtorEq] at h
      case struct fs =>
        cases ha : fs.toList.all fun f => (C.ti f.type).isSome with
        | false => simp [ha] at h
        | true =>
          simp only [ha, Option.map_eq_some_iff] at h
          obtain ⟨ps, hps, rfl⟩ := h
          refine ⟨_, rfl, ?_⟩
          rw [List.all_eq_true] at ha
          obtain ⟨places, hpl, hlen, hat⟩ := mapM_some (f := fun f : Field => (P.info? f.type).map fun i => (f.offset, i.size)) (l := fs.toList) (fun f hf => by
            obtain ⟨j, hj⟩ := Option.isSome_iff_exists.1 (ha f hf)
            obtain ⟨inf, h1, _⟩ := hC.ti _ _ hj
            simp [h1])
          refine main _ (fun x => places.toArray[x]?) ps hps (fun k r hk => ?_) fun l => by simp [Program.built, hinf, hu, hzv, hpl]
          split at hk
          · rename_i f hf
            simp only [Option.map_eq_some_iff] at hk
            obtain ⟨j, hj, rfl⟩ := hk
            obtain ⟨inf, h1, _, h2, _⟩ := hC.ti _ _ hj
            obtain ⟨hk, hfe⟩ := Array.getElem?_eq_some_iff.1 hf
            have hk' : k < places.length := by rw [hlen]; simpa using hk
            have := hat k (by simpa using hk) hk'
            simp only [Array.getElem_toList, hfe, h1, Option.map_some, Option.some.injEq] at this
            simp [hk', ← this, h2]
          · cases hk
      case array n el =>
        cases he : C.ti el with
        | none => simp [he] at h
        | some ei =>
          simp only [he, Option.map_eq_some_iff] at h
          obtain ⟨ps, hps, rfl⟩ := h
          obtain ⟨ie, h1, _, h2, _⟩ := hC.ti _ _ he
          refine ⟨_, rfl, main _ (fun i => some (i * ie.size, ie.size)) ps hps (fun k r hk => by rw [← hk, h2]) fun l => by simp [Program.built, hinf, hu, hzv, h1]⟩

end
end Go.Cm

/-
  The C machine, part J: parts, indexes, slices, lengths.
-/
namespace Go.Cm

section
variable {P : Program} {C : Cx}

theorem addr_add (r o k : Nat) : (⟨r, o, none⟩ : Addr).add k = ⟨r, o + k, none⟩ := by
  unfold Addr.add
  split <;> simp_all

theorem part_rel (hC : CxOk P C) {t : Nat} {j : TI} (hj : C.ti t = some j) {ρ : Ren} {cs : List CV} {us : Array Value} (hr : LRel ρ cs us.toList) {off : Nat} {v : CV} (h : partOf (isAggD j.under) off j.size cs = some v) (w : World) :
    ∃ X, (part t us off).run P w = .ok X w ∧ VRel ρ v X := by
  simp only [part, Sem.run_bind, run_isAgg (hC.under hj), Result.andThen_ok]
  cases ha : isAggD j.under with
  | true =>
    rw [ha] at h
    obtain ⟨h1, h2⟩ := cnd_some.1 (show cnd (lenGe cs (off + j.size)) (some (.agg (takeL (dropL cs off) j.size))) none = some v from h)
    simp only [Option.some.injEq] at h2
    subst h2
    simp only [if_true, Sem.run_bind, hC.run_size hj, Result.andThen_ok]
    refine ⟨_, rfl, VRel.agg_iff.2 ⟨_, rfl, ?_⟩⟩
    rw [takeL_eq, dropL_eq]
    have e : (us.extract off (off + j.size)).toList = (us.toList.drop off).take j.size := by simp [List.take_drop]
    rw [e]
    exact (hr.drop off).take j.size
  | false =>
    rw [ha] at h
    have h1 : nthO cs off = some v := h
    rw [nthO_eq] at h1
    obtain ⟨X, hX, hv⟩ := hr.get? h1
    have : us[off]? = some X := by simpa using hX
    simp only [Bool.false_eq_true, if_false, this]
    exact ⟨X, rfl, hv⟩

theorem compField_sound (hC : CxOk P C) {s : TypeId} {x : Operand} {k : Nat} {f : CAny} (h : compField C s x k false = some f) : ∃ g, f = .p g ∧ PSound P C (.field s x k) g := by
  unfold compField at h
  cases hi : C.ti s with
  | none => simp [hi] at h
  | some i =>
    cases hx : opd C x with
    | none => simp [hi, hx] at h
    | some y =>
      simp only [hi, hx] at h
      have hu := hC.under hi
      cases hd : i.under <;> simp only [hd, reduceCtorEq] at h hu
      case struct fs =>
        cases hf : fs[k]? with
        | none => simp [hf] at h
        | some fl =>
          simp only [hf] at h
          cases hj : C.ti fl.type with
          | none => simp [hj] at h
          | some j =>
            simp only [hj, Option.some.injEq] at h
            refine ⟨_, h.symm, ?_⟩
            intro S ρ e a w v o hs hg hR ho hf'
            have hr := opd_rel hs hg hR (by simp [Op.operands]) hx
            obtain ⟨cs, e1, h2⟩ := asAgg_some.1 hf'
            rw [e1] at hr
            obtain ⟨us, e2, hl⟩ := VRel.agg_iff.1 hr
            obtain ⟨X, hX, hv⟩ := part_rel hC hj hl h2 w
            refine ⟨X, .now ?_, hv⟩
            unfold execOp
            rw [ho]
            simp [Instr.field, run_underlying hu, hf, e2, Go.asAgg, hX]

theorem compFieldAddr_sound (hC : CxOk P C) {s : TypeId} {x : Operand} {k : Nat} {f : CAny} (h : compField C s x k true = some f) : ∃ g, f = .p g ∧ PSound P C (.fieldAddr s x k) g := by
  unfold compField at h
  cases hi : C.ti s with
  | none => simp [hi] at h
  | some i =>
    cases hx : opd C x with
    | none => simp [hi, hx] at h
    | some y =>
      simp only [hi, hx] at h
      have hu := hC.under hi
      cases hd : i.under <;> simp only [hd, reduceCtorEq] at h hu
      case struct fs =>
        cases hf : fs[k]? with
        | none => simp [hf] at h
        | some fl =>
          simp only [hf] at h
          cases hj : C.ti fl.type with
          | none => simp [hj] at h
          | some j =>
            cases hn : j.size with
            | zero => simp [hj, hn] at h
            | succ n =>
              simp only [hj, hn, Option.some.injEq] at h
              refine ⟨_, h.symm, ?_⟩
              intro S ρ e a w v o hs hg hR ho hf'
              have hr := opd_rel hs hg hR (by simp [Op.operands]) hx
              obtain ⟨b, q, e1, h2⟩ := asPtr_some.1 hf'
              simp only [Option.some.injEq] at h2
              subst h2
              rw [e1] at hr
              obtain ⟨r, m, e2, hb⟩ := hr.ptr_inv
              refine ⟨.pointer (some ⟨r, q + fl.offset, none⟩), .now ?_, .ptr _ _ _ _ hb⟩
              unfold execOp
              rw [ho]
              simp [Instr.fieldAt, run_underlying hu, hf, e2, Instr.sureAddr, fieldPlace, hC.run_size hj, hn, addr_add]

theorem run_asIntOf (k : IntKind) (n : Int) (w : World) : (asIntOf (.int k n)).run P w = .ok (k, n) w := rfl

theorem compIndexAddr_sound (hC : CxOk P C) {t : TypeId} {x ix : Operand} {f : CAny} (h : compIndexAddr C t x ix = some f) : ∃ g, f = .p g ∧ PSound P C (.indexAddr t x ix) g := by
  unfold compIndexAddr at h
  cases hi : C.ti t with
  | none => simp [hi] at h
  | some i =>
    cases hx : opd C x with
    | none => simp [hi, hx] at h
    | some y =>
      cases hix : opd C ix with
      | none => simp [hi, hx, hix] at h
      | some iy =>
        simp only [hi, hx, hix] at h
        have hu := hC.under hi
        cases hd : i.under <;> simp only [hd, reduceCtorEq, Option.map_eq_some_iff] at h hu
        case array n el =>
          obtain ⟨ei, he, h⟩ := h
          refine ⟨_, h.symm, ?_⟩
          intro S ρ e a w v o hs hg hR ho hf'
          have hr := opd_rel hs hg hR (by simp [Op.operands]) hx
          have hri := opd_rel hs hg hR (by simp [Op.operands]) hix
          obtain ⟨b, q, e1, h2⟩ := asPtr_some.1 hf'
          obtain ⟨k, j, e2, h3⟩ := asIdx_some.1 h2
          obtain ⟨h4, h5⟩ := cnd_some.1 h3
          rw [nat_blt_eq, decide_eq_true_eq] at h4
          simp only [Option.some.injEq] at h5
          subst h5
          rw [e1] at hr; rw [e2] at hri
          obtain ⟨r, m, e3, hb⟩ := hr.ptr_inv
          refine ⟨.pointer (some ⟨r, q + j * ei.size, none⟩), .now ?_, .ptr _ _ _ _ hb⟩
          unfold execOp
          rw [ho]
          simp [Instr.indexAt, hri.int_inv, run_asIntOf, run_underlying hu, e3, Instr.sureAddr, hC.run_size he, addr_add, h4]
        case slice el =>
          obtain ⟨ei, he, h⟩ := h
          refine ⟨_, h.symm, ?_⟩
          intro S ρ e a w v o hs hg hR ho hf'
          have hr := opd_rel hs hg hR (by simp [Op.operands]) hx
          have hri := opd_rel hs hg hR (by simp [Op.operands]) hix
          obtain ⟨k, j, e2, h3⟩ := asIdx_some.1 hf'
          rw [e2] at hri
          generalize ev e y = c at hr h3
          cases c <;> simp only [slAt, reduceCtorEq] at h3
          rename_i b q len cap ex
          obtain ⟨h4, h5⟩ := cnd_some.1 h3
          rw [nat_blt_eq, decide_eq_true_eq] at h4
          simp only [Option.some.injEq] at h5
          subst h5
          obtain ⟨r, m, c', e3, hb, _⟩ := hr.slice_inv
          refine ⟨.pointer (some ⟨r, q + j * ei.size, none⟩), .now ?_, .ptr _ _ _ _ hb⟩
          unfold execOp
          rw [ho]
          simp [Instr.indexAt, hri.int_inv, run_asIntOf, run_underlying hu, e3, hC.run_size he, addr_add, h4]

theorem bytes_get {s : ByteArray} {i c : Nat} (h : (s.data.toList.map (·.toNat))[i]? = some c) : ∃ b : UInt8, s[i]? = some b ∧ b.toNat = c := by
  simp only [List.getElem?_map, Option.map_eq_some_iff] at h
  obtain ⟨b, hb, rfl⟩ := h
  refine ⟨b, ?_, rfl⟩
  obtain ⟨hi, he⟩ := List.getElem?_eq_some_iff.1 hb
  have hi' : i < s.size := by simpa using hi
  rw [getElem?_pos s i hi']
  simp only [Option.some.injEq]
  rw [← he]
  rfl

theorem compIndex_sound (hC : CxOk P C) {t : TypeId} {x ix : Operand} {f : CAny} (h : compIndex C t x ix = some f) : ∃ g, f = .p g ∧ PSound P C (.index t x ix) g := by
  unfold compIndex at h
  cases hi : C.ti t with
  | none => simp [hi] at h
  | some i =>
    cases hx : opd C x with
    | none => simp [hi, hx] at h
    | some y =>
      cases hix : opd C ix with
      | none => simp [hi, hx, hix] at h
      | some iy =>
        simp only [hi, hx, hix] at h
        have hu := hC.under hi
        cases hd : i.under <;> simp only [hd, reduceCtorEq, Option.map_eq_some_iff, Option.some.injEq] at h hu
        case array n el =>
          obtain ⟨ei, he, h⟩ := h
          refine ⟨_, h.symm, ?_⟩
          intro S ρ e a w v o hs hg hR ho hf'
          have hr := opd_rel hs hg hR (by simp [Op.operands]) hx
          have hri := opd_rel hs hg hR (by simp [Op.operands]) hix
          obtain ⟨cs, e1, h2⟩ := asAgg_some.1 hf'
          obtain ⟨k, j, e2, h3⟩ := asIdx_some.1 h2
          obtain ⟨h4, h5⟩ := cnd_some.1 h3
          rw [nat_blt_eq, decide_eq_true_eq] at h4
          rw [e1] at hr; rw [e2] at hri
          obtain ⟨us, e3, hl⟩ := VRel.agg_iff.1 hr
          obtain ⟨X, hX, hv⟩ := part_rel hC he hl h5 w
          refine ⟨X, .now ?_, hv⟩
          unfold execOp
          rw [ho]
          simp [Instr.index, hri.int_inv, run_asIntOf, run_underlying hu, e3, hC.run_size he, h4, hX]
        case string =>
          refine ⟨_, h.symm, ?_⟩
          intro S ρ e a w v o hs hg hR ho hf'
          have hr := opd_rel hs hg hR (by simp [Op.operands]) hx
          have hri := opd_rel hs hg hR (by simp [Op.operands]) hix
          obtain ⟨l, e1, h2⟩ := asStr_some.1 hf'
          obtain ⟨k, j, e2, h3⟩ := asIdx_some.1 h2
          obtain ⟨c, h4, h5⟩ := rec_some.1 h3
          rw [nthO_eq] at h4
          simp only [Option.some.injEq] at h5
          subst h5
          rw [e1] at hr; rw [e2] at hri
          obtain ⟨s, e3, rfl⟩ := hr.str_inv
          obtain ⟨b, hb, rfl⟩ := bytes_get h4
          refine ⟨.int .u8 b.toNat, .now ?_, .int _ _⟩
          unfold execOp
          rw [ho]
          simp [Instr.index, hri.int_inv, run_asIntOf, run_underlying hu, e3, hb]

theorem extract_sound {x : Operand} {y : COpd} (k : Nat) (h : opd C x = some y) : PSound P C (.extract x k) (pExtract k y) := by
  intro S ρ e a w v o hs hg hR ho hf
  have hr := opd_rel hs hg hR (by simp [Op.operands]) h
  simp only [pExtract] at hf
  generalize ev e y = c at hf hr
  cases c <;> simp only [pExtract.extracted, reduceCtorEq] at hf
  rename_i vs
  rw [nthO_eq] at hf
  obtain ⟨us, e2, hl⟩ := VRel.tuple_iff.1 hr
  obtain ⟨X, hX, hv⟩ := hl.get? hf
  have : us[k]? = some X := by simpa using hX
  exact ⟨X, .now (by unfold execOp; rw [ho]; simp [Instr.extract, e2, this]), hv⟩

theorem assert_sound (hC : CxOk P C) {x : Operand} {y : COpd} (xt t : TypeId) (ok : Bool) {i : TI} {z : CV} (hx : opd C x = some y) (hi : C.ti t = some i) (hz : i.zero = some z) (hn : ∀ ms, i.under ≠ .interface ms) :
    PSound P C (.typeAssert x xt t ok) (pAssert t z ok y) := by
  intro S ρ e a w v o hs hg hR ho hf
  have hr := opd_rel hs hg hR (by simp [Op.operands]) hx
  obtain ⟨zv, hzv, hzr⟩ := hC.run_zero hi hz w
  have hu := hC.under hi
  simp only [pAssert] at hf
  generalize ev e y = c at hf hr
  cases c <;> simp only [pAssert.asserted, reduceCtorEq] at hf
  case iface u c =>
    obtain ⟨X, e2, hX⟩ := hr.iface_inv
    rw [nat_beq_eq] at hf
    by_cases e' : u = t
    · subst e'
      simp only [decide_true, cnd_true] at hf
      cases ok with
      | true =>
        simp only [cnd_true, Option.some.injEq] at hf
        subst hf
        refine ⟨.tuple #[X, .bool true], .now ?_, VRel.tuple_iff.2 ⟨_, rfl, .cons hX (.cons (.bool _) (.nil _))⟩⟩
        unfold execOp; rw [ho]
        simp only [Instr.typeAssert, Sem.run_bind, run_underlying hu, Result.andThen_ok, e2]
        cases hd : i.under <;> first | exact absurd hd (hn _) | simp
      | false =>
        simp only [cnd_false, Option.some.injEq] at hf
        subst hf
        refine ⟨X, .now ?_, hX⟩
        unfold execOp; rw [ho]
        simp only [Instr.typeAssert, Sem.run_bind, run_underlying hu, Result.andThen_ok, e2]
        cases hd : i.under <;> first | exact absurd hd (hn _) | simp
    · simp only [e', decide_false, cnd_false] at hf
      cases ok with
      | false => simp [cnd] at hf
      | true =>
        simp only [cnd_true, Option.some.injEq] at hf
        subst hf
        refine ⟨.tuple #[zv, .bool false], .now ?_, VRel.tuple_iff.2 ⟨_, rfl, .cons (hzr ρ) (.cons (.bool _) (.nil _))⟩⟩
        unfold execOp; rw [ho]
        simp only [Instr.typeAssert, Sem.run_bind, run_underlying hu, Result.andThen_ok, e2]
        cases hd : i.under <;> first | exact absurd hd (hn _) | simp [e', hzv]
  case niliface =>
    cases ok with
    | false => simp [cnd] at hf
    | true =>
      simp only [cnd_true, Option.some.injEq] at hf
      subst hf
      refine ⟨.tuple #[zv, .bool false], .now ?_, VRel.tuple_iff.2 ⟨_, rfl, .cons (hzr ρ) (.cons (.bool _) (.nil _))⟩⟩
      unfold execOp; rw [ho]
      simp only [Instr.typeAssert, Sem.run_bind, run_underlying hu, Result.andThen_ok, hr.niliface_inv]
      cases hd : i.under <;> first | exact absurd hd (hn _) | simp [hzv]

/-! Slices. -/

/-- The bound that an operand gives. -/
theorem optIdx_rel {α : Type} {S : Nat → Prop} {ρ : Ren} {e : Env} {a : Act} (hs : SRel C S ρ e a.tmps) (hg : GRel C.ng ρ) {zs : Array Operand} (hr : ∀ t, .tmp t ∈ zs → S t) {x : Option Operand} {y : Option COpd} (hx : ∀ z ∈ x, z ∈ zs) (h : optOpd C x = some y)
    {d : Nat} {f : Nat → Option α} {r : α} (hf : optIdx e y d f = some r) : ∃ n, f n = some r ∧ ((x = none ∧ n = d) ∨ ∃ z k, x = some z ∧ a.eval z = .int k (n : Int)) := by
  cases x with
  | none =>
    simp only [optOpd, Option.some.injEq] at h
    subst h
    exact ⟨d, hf, Or.inl ⟨rfl, rfl⟩⟩
  | some z =>
    simp only [optOpd, Option.map_eq_some_iff] at h
    obtain ⟨c, hc, rfl⟩ := h
    have hz := opd_rel hs hg hr (hx z rfl) hc
    obtain ⟨k, n, e1, h2⟩ := asIdx_some.1 (show asIdx (ev e c) f none = some r from hf)
    rw [e1] at hz
    exact ⟨n, h2, Or.inr ⟨z, k, rfl, hz.int_inv⟩⟩

theorem run_sliceBound (k : IntKind) (n y : Nat) (code : BoundsCode) (w : World) (h : n ≤ y) : (Instr.sliceBound (.int k (n : Int)) y code).run P w = .ok n w := by
  simp [Instr.sliceBound, run_asIntOf, h]

/-- What an operand that may lack says of a bound. -/
def Bound (a : Act) (x : Option Operand) (d n : Nat) : Prop := (x = none ∧ n = d) ∨ ∃ z k, x = some z ∧ a.eval z = .int k (n : Int)

theorem run_bounds {a : Act} {lo hi mx : Option Operand} {len cap l h m : Nat} (b : Bool) (w : World) (hl : Bound a lo 0 l) (hh : Bound a hi len h) (hm : Bound a mx cap m) (h1 : l ≤ h) (h2 : h ≤ m) (h3 : m ≤ cap) (hx : mx = none ∨ hi ≠ none) :
    (Instr.sliceBounds b len cap (lo.map a.eval) (hi.map a.eval) (mx.map a.eval)).run P w = .ok (l, h, m) w := by
  rcases hm with ⟨rfl, rfl⟩ | ⟨z, k, rfl, hz⟩
  · rcases hh with ⟨rfl, rfl⟩ | ⟨z', k', rfl, hz'⟩
    · rcases hl with ⟨rfl, rfl⟩ | ⟨z'', k'', rfl, hz''⟩
      · simp [Instr.sliceBounds]
      · simp [Instr.sliceBounds, hz'', run_sliceBound, h1]
    · rcases hl with ⟨rfl, rfl⟩ | ⟨z'', k'', rfl, hz''⟩
      · simp [Instr.sliceBounds, hz', run_sliceBound, h2]
      · simp [Instr.sliceBounds, hz', hz'', run_sliceBound, h1, h2]
  · rcases hh with ⟨rfl, rfl⟩ | ⟨z', k', rfl, hz'⟩
    · rcases hx with hx | hx <;> simp at hx
    · rcases hl with ⟨rfl, rfl⟩ | ⟨z'', k'', rfl, hz''⟩
      · simp [Instr.sliceBounds, hz, hz', run_sliceBound, h2, h3]
      · simp [Instr.sliceBounds, hz, hz', hz'', run_sliceBound, h1, h2, h3]

theorem optIdx_bound {α : Type} {S : Nat → Prop} {ρ : Ren} {e : Env} {a : Act} (hs : SRel C S ρ e a.tmps) (hg : GRel C.ng ρ) {zs : Array Operand} (hr : ∀ t, .tmp t ∈ zs → S t) {x : Option Operand} {y : Option COpd} (hx : ∀ z ∈ x, z ∈ zs) (h : optOpd C x = some y)
    {d : Nat} {f : Nat → Option α} {r : α} (hf : optIdx e y d f = some r) : ∃ n, f n = some r ∧ Bound a x d n := optIdx_rel hs hg hr hx h hf

theorem slice_addr (r o k n m : Nat) : (if m = k then (⟨r, o, none⟩ : Addr) else (⟨r, o, none⟩ : Addr).add (k * n)) = ⟨r, if m = k then o else o + k * n, none⟩ := by
  split <;> simp [addr_add]

theorem optOpd_isSome {x : Option Operand} {y : Option COpd} (h : optOpd C x = some y) : y.isSome = x.isSome := by
  cases x with
  | none => simp [optOpd] at h; subst h; rfl
  | some z => simp only [optOpd, Option.map_eq_some_iff] at h; obtain ⟨c, _, rfl⟩ := h; rfl

theorem sliceFrom_some {n b o cap : Nat} {ex : Option Nat} {mx : Bool} {l h m : Nat} {v : CV} (hf : sliceFrom n b o cap ex mx l h m = some v) :
    l ≤ h ∧ h ≤ m ∧ m ≤ cap ∧ ((mx = true ∨ ex = none) ∧ v = .slice b (if m = l then o else o + l * n) (h - l) (m - l) none ∨
      mx = false ∧ ∃ s, ex = some s ∧ ((l < cap ∧ s = n ∧ v = .slice b (o + l * n) (h - l) (cap - l) (some s)) ∨ (cap ≤ l ∧ v = .emptysl))) := by
  unfold sliceFrom at hf
  obtain ⟨h1, hf1⟩ := cnd_some.1 hf
  obtain ⟨h2, hf2⟩ := cnd_some.1 hf1
  obtain ⟨h3, hf3⟩ := cnd_some.1 hf2
  refine ⟨Nat.le_of_ble_eq_true h1, Nat.le_of_ble_eq_true h2, Nat.le_of_ble_eq_true h3, ?_⟩
  have e : cnd (Nat.beq m l) o (o + l * n) = if m = l then o else o + l * n := by
    rw [nat_beq_eq]; by_cases h : m = l <;> simp [h, cnd]
  rw [e] at hf3
  cases mx with
  | true =>
    simp only [cnd_true, Option.some.injEq] at hf3
    exact Or.inl ⟨Or.inl rfl, hf3.symm⟩
  | false =>
    cases ex with
    | none =>
      simp only [cnd_false, Option.some.injEq] at hf3
      exact Or.inl ⟨Or.inr rfl, hf3.symm⟩
    | some s =>
      simp only [cnd_false] at hf3
      refine Or.inr ⟨rfl, s, rfl, ?_⟩
      rw [nat_blt_eq, nat_beq_eq] at hf3
      by_cases hc : l < cap
      · simp only [hc, decide_true, cnd_true] at hf3
        obtain ⟨h4, h5⟩ := cnd_some.1 hf3
        exact Or.inl ⟨hc, by simpa using h4, by simpa using h5.symm⟩
      · simp only [hc, decide_false, cnd_false, Option.some.injEq] at hf3
        exact Or.inr ⟨Nat.le_of_not_lt hc, hf3.symm⟩

theorem extract_bytes (s : ByteArray) (l h : Nat) : (s.extract l h).data.toList.map (·.toNat) = ((s.data.toList.map (·.toNat)).drop l).take (h - l) := by
  rw [← List.map_drop, ← List.map_take]
  congr 1
  simp [ByteArray.data_extract, List.take_drop]

theorem compSlice_wf {t : TypeId} {x : Operand} {lo hi mx : Option Operand} {f : CAny} (h : compSlice C t x lo hi mx = some f) : mx = none ∨ hi ≠ none := by
  cases mx with
  | none => exact Or.inl rfl
  | some m => cases hi with
    | some _ => exact Or.inr (by simp)
    | none =>
      unfold compSlice at h
      split at h
      · rename_i hq
        cases hq
      · cases h

theorem compSlice_sound (hC : CxOk P C) {t : TypeId} {x : Operand} {lo hi mx : Option Operand} {f : CAny} (h : compSlice C t x lo hi mx = some f) (hmx : mx = none ∨ hi ≠ none) : ∃ g, f = .p g ∧ PSound P C (.slice t x lo hi mx) g := by
  unfold compSlice at h
  have hb : (mx.isNone || hi.isSome) = true := by
    rcases hmx with rfl | hmx
    · rfl
    · cases hi with
      | none => exact absurd rfl hmx
      | some _ => simp
  rw [hb] at h
  cases hi1 : C.ti t with
  | none => simp [hi1] at h
  | some i => cases hx : opd C x with
    | none => simp [hi1, hx] at h
    | some y => cases hlo : optOpd C lo with
      | none => simp [hi1, hx, hlo] at h
      | some lo' => cases hhi : optOpd C hi with
        | none => simp [hi1, hx, hlo, hhi] at h
        | some hi' => cases hmx' : optOpd C mx with
          | none => simp [hi1, hx, hlo, hhi, hmx'] at h
          | some mx' =>
            simp only [hi1, hx, hlo, hhi, hmx'] at h
            have hu := hC.under hi1
            have mlo : ∀ z ∈ lo, z ∈ (Op.slice t x lo hi mx).operands := by intro z hz; cases lo <;> simp_all [Op.operands]
            have mhi : ∀ z ∈ hi, z ∈ (Op.slice t x lo hi mx).operands := by intro z hz; cases hi <;> simp_all [Op.operands]
            have mmx : ∀ z ∈ mx, z ∈ (Op.slice t x lo hi mx).operands := by intro z hz; cases mx <;> simp_all [Op.operands]
            cases hd : i.under <;> simp only [hd, reduceCtorEq] at h hu
            case array n el =>
              cases he : C.ti el with
              | none => simp [he] at h
              | some ei =>
                simp only [he, Option.some.injEq] at h
                refine ⟨_, h.symm, ?_⟩
                intro S ρ e a w v o hs hg hR ho hf
                have hr := opd_rel hs hg hR (by simp [Op.operands]) hx
                obtain ⟨b, q, e1, f1⟩ := asPtr_some.1 hf
                rw [e1] at hr
                obtain ⟨r, m', e2, hb⟩ := hr.ptr_inv
                obtain ⟨l, f2, bl⟩ := optIdx_bound hs hg hR mlo hlo f1
                obtain ⟨hh, f3, bh⟩ := optIdx_bound hs hg hR mhi hhi f2
                obtain ⟨m, f4, bm⟩ := optIdx_bound hs hg hR mmx hmx' f3
                obtain ⟨h1, h2, h3, h4⟩ := sliceFrom_some f4
                rcases h4 with ⟨_, rfl⟩ | ⟨_, s, hc, _⟩
                · refine ⟨.slice (some ⟨r, if m = l then q else q + l * ei.size, none⟩) (hh - l) (m - l), .now ?_, .slice _ _ _ _ _ _ hb⟩
                  unfold execOp
                  rw [ho]
                  simp [Instr.sliceAt, run_underlying hu, e2, Instr.sureAddr, run_bounds false w bl bh bm h1 h2 h3 hmx, hC.run_size he, slice_addr]
                · cases hc
            case string =>
              cases mx' with
              | some _ => simp at h
              | none =>
                simp only [Option.some.injEq] at h
                refine ⟨_, h.symm, ?_⟩
                intro S ρ e a w v o hs hg hR ho hf
                have hr := opd_rel hs hg hR (by simp [Op.operands]) hx
                have hmn : mx = none := by have := optOpd_isSome hmx'; cases mx <;> simp_all
                subst hmn
                obtain ⟨b, e1, f1⟩ := asStr_some.1 hf
                rw [e1] at hr
                obtain ⟨s, e2, rfl⟩ := hr.str_inv
                obtain ⟨l, f2, bl⟩ := optIdx_bound hs hg hR mlo hlo f1
                obtain ⟨hh, f3, bh⟩ := optIdx_bound hs hg hR mhi hhi f2
                obtain ⟨h1, f4⟩ := cnd_some.1 (show cnd (Nat.ble l hh) (cnd (lenGe (s.data.toList.map (·.toNat)) hh) (some (.str (takeL (dropL (s.data.toList.map (·.toNat)) l) (hh - l)))) none) none = some v from f3)
                obtain ⟨h2, f5⟩ := cnd_some.1 f4
                have h1 := Nat.le_of_ble_eq_true h1
                rw [lenGe_eq, decide_eq_true_eq, List.length_map] at h2
                have h2 : hh ≤ s.size := by simpa using h2
                simp only [Option.some.injEq, takeL_eq, dropL_eq] at f5
                subst f5
                have bh' : Bound a hi s.size hh := by simpa [lenL_eq] using bh
                refine ⟨.string (s.extract l hh), .now ?_, ?_⟩
                · unfold execOp
                  rw [ho]
                  have := run_bounds (P := P) (mx := none) (cap := s.size) (m := s.size) false w bl bh' (Or.inl ⟨rfl, rfl⟩) h1 h2 (Nat.le_refl _) (Or.inl rfl)
                  simp only [Option.map_none] at this
                  simp [Instr.sliceAt, Instr.slice, run_underlying hu, e2, this]
                · rw [← extract_bytes]; exact .str _
            case slice el =>
              cases he : C.ti el with
              | none => simp [he] at h
              | some ei =>
                simp only [he, Option.some.injEq] at h
                refine ⟨_, h.symm, ?_⟩
                intro S ρ e a w v o hs hg hR ho hf
                have hr := opd_rel hs hg hR (by simp [Op.operands]) hx
                simp only [pSliceSl] at hf
                generalize ev e y = c at hr hf
                cases c <;> simp only [sliceSl, reduceCtorEq] at hf
                case nilslice =>
                  obtain ⟨l, f2, bl⟩ := optIdx_bound hs hg hR mlo hlo hf
                  obtain ⟨hh, f3, bh⟩ := optIdx_bound hs hg hR mhi hhi f2
                  obtain ⟨m, f4, bm⟩ := optIdx_bound hs hg hR mmx hmx' f3
                  obtain ⟨h1, h2⟩ := cnd_some.1 f4
                  rw [nat_beq_eq, decide_eq_true_eq] at h1
                  simp only [Option.some.injEq] at h2
                  subst h2
                  obtain ⟨rfl, rfl, rfl⟩ : l = 0 ∧ hh = 0 ∧ m = 0 := by omega
                  refine ⟨.slice none 0 0, .now ?_, .nilslice⟩
                  unfold execOp
                  rw [ho]
                  have hb := run_bounds (P := P) true w bl bh bm (Nat.le_refl _) (Nat.le_refl _) (Nat.le_refl _) hmx
                  simp only [Instr.sliceAt, Sem.run_bind, run_underlying hu, Result.andThen_ok, Instr.slice, hr.nilslice_inv, hb, hC.run_size he]
                  rfl
                case slice b q len cap ex =>
                  obtain ⟨r, m0, c', e2, hb, hc1, hc2, hc3⟩ := hr.slice_inv
                  obtain ⟨l, f2, bl⟩ := optIdx_bound hs hg hR mlo hlo hf
                  obtain ⟨hh, f3, bh⟩ := optIdx_bound hs hg hR mhi hhi f2
                  obtain ⟨m, f4, bm⟩ := optIdx_bound hs hg hR mmx hmx' f3
                  obtain ⟨h1, h2, h3, h4⟩ := sliceFrom_some f4
                  have step : ∀ mm, Bound a mx c' mm → hh ≤ mm → mm ≤ c' → (execOp a.eval o).run P w = .ok (.value (.slice (some ⟨r, if mm = l then q else q + l * ei.size, none⟩) (hh - l) (mm - l))) w := by
                    intro mm bmm g1 g2
                    unfold execOp
                    rw [ho]
                    simp [Instr.sliceAt, Instr.slice, run_underlying hu, e2, run_bounds true w bl bh bmm h1 g1 g2 hmx, hC.run_size he]
                    split <;> simp [addr_add]
                  rcases h4 with ⟨h5, rfl⟩ | ⟨h5, s, rfl, h6⟩
                  · have bm' : Bound a mx c' m := by
                      rcases bm with ⟨g1, g2⟩ | g
                      · rcases h5 with h5 | h5
                        · rw [optOpd_isSome hmx', g1] at h5; cases h5
                        · exact Or.inl ⟨g1, by rw [g2, hc2 h5]⟩
                      · exact Or.inr g
                    exact ⟨_, .now (step m bm' h2 (by omega)), .slice _ _ _ _ _ _ hb⟩
                  · have g1 : mx = none := by
                      have := optOpd_isSome hmx'
                      rw [h5] at this
                      exact Option.isNone_iff_eq_none.1 (by rw [← Option.not_isSome, ← this]; rfl)
                    have bm' : Bound a mx c' c' := Or.inl ⟨g1, rfl⟩
                    have g2 : m = cap := by
                      rcases bm with ⟨_, g⟩ | ⟨z, k, g, _⟩
                      · exact g
                      · rw [g1] at g; cases g
                    subst g2
                    rcases h6 with ⟨h6, rfl, rfl⟩ | ⟨h6, rfl⟩
                    · refine ⟨_, .now (step c' bm' (by omega) (Nat.le_refl _)), ?_⟩
                      rw [if_neg (by omega)]
                      have := hc3 _ rfl
                      refine .sliceE _ _ _ _ _ _ _ _ hb (by omega) ?_
                      have : (c' - l) * ei.size = c' * ei.size - l * ei.size := Nat.sub_mul ..
                      have : l * ei.size ≤ c' * ei.size := Nat.mul_le_mul_right _ (by omega)
                      omega
                    · refine ⟨_, .now (step c' bm' (by omega) (Nat.le_refl _)), ?_⟩
                      have : hh - l = 0 := by omega
                      rw [this]
                      exact .emptysl _ _

end
end Go.Cm

/-
  The C machine, part K: built-in functions that depend on the operands alone; memory.
-/
namespace Go.Cm

section
variable {P : Program} {C : Cx}

theorem toList_one {α : Type} {xs : Array α} {x : α} (h : xs.toList = [x]) : xs = #[x] := by
  apply Array.ext'; simpa using h
theorem toList_two {α : Type} {xs : Array α} {x y : α} (h : xs.toList = [x, y]) : xs = #[x, y] := by
  apply Array.ext'; simpa using h

/-- A built-in function's call. -/
theorem exec_builtin {o : Oper} {c : Call} {b : Builtin} (ho : o.op = .call c) (hc : c.callee = .builtin b) (a : Act) :
    execOp a.eval o = builtin b c.argTypes o.type (c.args.map fun | .const _ => true | _ => false) (c.args.map a.eval) := by
  unfold execOp
  rw [ho]
  simp only [resolve, hc]
  rfl

theorem call_operands {c : Call} {b : Builtin} (hc : c.callee = .builtin b) : (Op.call c).operands = c.args := by
  simp [Op.operands, Call.operands, hc]

theorem lenSl_some {v r : CV} (h : lenSl v = some r) {ρ : Ren} {u : Value} (hr : VRel ρ v u) : ∃ b n c, u = .slice b n c ∧ r = .int .i64 (.ofNat n) := by
  cases v <;> simp only [lenSl, reduceCtorEq, Option.some.injEq] at h
  · subst h; exact ⟨none, 0, 0, hr.nilslice_inv, rfl⟩
  · subst h; obtain ⟨a, c, e⟩ := hr.emptysl_inv; exact ⟨_, 0, c, e, rfl⟩
  · subst h; obtain ⟨r, m, c', e, _⟩ := hr.slice_inv; exact ⟨_, _, c', e, rfl⟩

theorem lenP_sound (hC : CxOk P C) {c : Call} (hc : c.callee = .builtin .len) {t : TypeId} {x : Operand} (ht : c.argTypes.toList = [t]) (hx : c.args.toList = [x]) {g : PFn} (h : compLen C t x = some (.p g)) : PSound P C (.call c) g := by
  unfold compLen at h
  cases hi : C.ti t with
  | none => simp [hi] at h
  | some i => cases hy : opd C x with
    | none => simp [hi, hy] at h
    | some y =>
      simp only [hi, hy] at h
      have hu := hC.under hi
      intro S ρ e a w v o hs hg hR ho hf
      rw [call_operands hc] at hR
      have hargs := toList_one hx
      have htys := toList_one ht
      have hr := opd_rel hs hg hR (by rw [hargs]; simp) hy
      have go : ∀ v', (Builtin.len_ #[t] o.type #[a.eval x]).run P w = .ok v' w → Yields P (execOp a.eval o) w v' := by
        intro v' h
        refine .now ?_
        rw [exec_builtin ho hc, hargs, htys]
        simp [builtin, h]
      cases hd : i.under <;> simp only [hd, reduceCtorEq, Option.some.injEq, CAny.p.injEq] at h hu
      case string =>
        subst h
        obtain ⟨l, e1, h2⟩ := asStr_some.1 hf
        rw [e1] at hr
        obtain ⟨s, e2, rfl⟩ := hr.str_inv
        simp only [Option.some.injEq] at h2
        subst h2
        refine ⟨.int .i64 s.size, go _ ?_, ?_⟩
        · simp [Builtin.len_, run_underlying hu, e2, goInt]
        · rw [lenL_eq]; simp; exact .int _ _
      case slice el =>
        subst h
        obtain ⟨b, n, c', e2, rfl⟩ := lenSl_some hf hr
        refine ⟨.int .i64 n, go _ ?_, .int _ _⟩
        simp [Builtin.len_, run_underlying hu, e2, goInt]
      case array n el =>
        subst h
        simp only [pMove, ev_const, Option.some.injEq] at hf
        subst hf
        refine ⟨.int .i64 n, go _ ?_, .int _ _⟩
        simp [Builtin.len_, run_underlying hu, goInt]

theorem cap_sound {c : Call} (hc : c.callee = .builtin .cap) {t el : TypeId} {x : Operand} (ht : c.argTypes.toList = [t]) (hx : c.args.toList = [x]) (hu : P.underlying t = some (.slice el)) {y : COpd} (hy : opd C x = some y) : PSound P C (.call c) (pCap y) := by
  intro S ρ e a w v o hs hg hR ho hf
  rw [call_operands hc] at hR
  have hargs := toList_one hx
  have htys := toList_one ht
  have hr := opd_rel hs hg hR (by rw [hargs]; simp) hy
  have go : ∀ v', (Builtin.cap_ #[t] o.type #[a.eval x]).run P w = .ok v' w → Yields P (execOp a.eval o) w v' := by
    intro v' h
    refine .now ?_
    rw [exec_builtin ho hc, hargs, htys]
    simp [builtin, h]
  simp only [pCap] at hf
  generalize ev e y = cv at hf hr
  cases cv <;> simp only [pCap.capCV, reduceCtorEq, Option.some.injEq] at hf
  case nilslice =>
    subst hf
    refine ⟨.int .i64 0, go _ ?_, .int _ _⟩
    simp [Builtin.cap_, run_underlying hu, hr.nilslice_inv, goInt]
  case slice b q len cap ex =>
    cases ex <;> simp only [reduceCtorEq, Option.some.injEq] at hf
    subst hf
    obtain ⟨r, m, c', e2, _, _, h3, _⟩ := hr.slice_inv
    refine ⟨.int .i64 cap, go _ ?_, .int _ _⟩
    simp [Builtin.cap_, run_underlying hu, e2, goInt, h3 rfl]

theorem mm2_some {mx : Bool} {x y v : CV} (h : mm2 mx x y = some v) : ∃ k m n, x = .int k m ∧ y = .int k n ∧ v = .int k (if mx then (if m < n then n else m) else (if n < m then n else m)) := by
  obtain ⟨k, m, rfl, h1⟩ := asInt_some.1 h
  obtain ⟨l, n, rfl, h2⟩ := asInt_some.1 h1
  obtain ⟨hk, h3⟩ := cnd_some.1 h2
  rw [kindEq_eq, decide_eq_true_eq] at hk
  subst hk
  simp only [Option.some.injEq, intLt_eq] at h3
  refine ⟨k, m, n, rfl, rfl, ?_⟩
  rw [← h3]
  cases mx
  · by_cases h : n < m <;> simp [h, cnd]
  · by_cases h : m < n <;> simp [h, cnd]

theorem mmL_rel (mx : Bool) (w : World) {ρ : Ren} : ∀ (r : List CV) (us : List Value) (x v : CV) (u : Value), LRel ρ r us → VRel ρ x u → mmL mx r x = some v →
    ∃ v', (us.foldlM (if mx then Builtin.max2 else Builtin.min2) u).run P w = .ok v' w ∧ VRel ρ v v'
  | [], us, x, v, u, hr, hx, h => by
    rw [hr.nil_left]
    have : some x = some v := h
    simp only [Option.some.injEq] at this
    subst this
    exact ⟨u, rfl, hx⟩
  | y :: r, us, x, v, u, hr, hx, h => by
    obtain ⟨u2, us, rfl, hy, hr'⟩ := hr.cons_left
    obtain ⟨z, hz, h2⟩ := rec_some.1 (show Option.rec (motive := fun _ => Option CV) none (mmL mx r) (mm2 mx x y) = some v from h)
    obtain ⟨k, m, n, rfl, rfl, rfl⟩ := mm2_some hz
    rw [hx.int_inv, hy.int_inv, List.foldlM_cons]
    obtain ⟨v', h3, h4⟩ := mmL_rel mx w r us _ v (.int k (if mx then (if m < n then n else m) else (if n < m then n else m))) hr' (.int _ _) h2
    refine ⟨v', ?_, h4⟩
    cases mx
    · simp only [Bool.false_eq_true, if_false, Sem.run_bind] at h3 ⊢
      simpa [Builtin.min2] using h3
    · simp only [if_true, Sem.run_bind] at h3 ⊢
      simpa [Builtin.max2] using h3

theorem mm_sound (mx : Bool) {c : Call} (hc : c.callee = .builtin (if mx then .max else .min)) {x : Operand} {r : List Operand} (hx : c.args.toList = x :: r) {y : COpd} {s : List COpd} (hy : opd C x = some y) (hs' : opds C r = some s) : PSound P C (.call c) (pMm mx y s) := by
  intro S ρ e a w v o hs hg hR ho hf
  rw [call_operands hc] at hR
  have hr := opd_rel hs hg hR (x := x) (by rw [← Array.mem_toList_iff, hx]; simp) hy
  have hrs := opds_rel hs hg hR (xs := r) (fun z hz => by rw [← Array.mem_toList_iff, hx]; simp [hz]) hs'
  obtain ⟨v', h1, h2⟩ := mmL_rel (P := P) mx w _ _ _ v _ hrs hr hf
  refine ⟨v', .now ?_, h2⟩
  rw [exec_builtin ho hc]
  have he : (c.args.map a.eval).toList = a.eval x :: r.map a.eval := by simp [hx]
  cases mx
  · simp only [Bool.false_eq_true, if_false, builtin, Sem.run_bind, Builtin.min_, he] at h1 ⊢
    rw [h1]; rfl
  · simp only [if_true, builtin, Sem.run_bind, Builtin.max_, he] at h1 ⊢
    rw [h1]; rfl

theorem sliceData_sound {c : Call} (hc : c.callee = .builtin .unsafeSliceData) {x : Operand} (hx : c.args.toList = [x]) {y : COpd} (hy : opd C x = some y) : PSound P C (.call c) (pSliceData y) := by
  intro S ρ e a w v o hs hg hR ho hf
  rw [call_operands hc] at hR
  have hargs := toList_one hx
  have hr := opd_rel hs hg hR (by rw [hargs]; simp) hy
  have go : ∀ v', (Builtin.unsafeSliceData_ c.argTypes o.type #[a.eval x]).run P w = .ok v' w → Yields P (execOp a.eval o) w v' := by
    intro v' h
    refine .now ?_
    rw [exec_builtin ho hc, hargs]
    simp [builtin, h]
  simp only [pSliceData] at hf
  generalize ev e y = cv at hf hr
  cases cv <;> simp only [pSliceData.dataOf, reduceCtorEq, Option.some.injEq] at hf
  case nilslice =>
    subst hf
    refine ⟨.pointer none, go _ ?_, .nilptr⟩
    rw [hr.nilslice_inv]; rfl
  case slice b q len cap ex =>
    obtain ⟨h1, h2⟩ := cnd_none_some.1 hf
    simp only [Option.some.injEq] at h2
    subst h2
    obtain ⟨r, m, c', e2, hb, h3, _⟩ := hr.slice_inv
    rw [nat_beq_eq, decide_eq_false_iff_not] at h1
    refine ⟨.pointer (some ⟨r, q, none⟩), go _ ?_, .ptr _ _ _ _ hb⟩
    have : c' ≠ 0 := by omega
    rw [e2]
    show Sem.run P (if c' ≠ 0 then _ else _) w = _
    rw [if_pos this]
    rfl

end

/-! ### Memory -/

def Live (H : Nat → Option MObj) (K : Nat → Option LObj) (b : Nat) : Prop := H b ≠ none ∨ K b ≠ none

abbrev KRelT := Ren → LObj → Obj → Prop

structure Rel (KR : KRelT) (ρ : Ren) (H : Nat → Option MObj) (K : Nat → Option LObj) (n : Nat) (w : World) : Prop where
  fresh : ∀ b, n ≤ b → ρ b = none
  data : ∀ b o, H b = some o → ∃ r m x, ρ b = some (r, m) ∧ w.heap[r]? = some x ∧ ORel ρ m o x
  ctl : ∀ b l, K b = some l → ∃ r m x, ρ b = some (r, m) ∧ w.heap[r]? = some x ∧ KR ρ l x
  inj : ∀ b c r m m', Live H K b → Live H K c → ρ b = some (r, m) → ρ c = some (r, m') → b = c
  apart : ∀ b o, H b = some o → K b = none

def KMono (KR : KRelT) : Prop := ∀ ρ ρ' l x, Sub ρ ρ' → KR ρ l x → KR ρ' l x

theorem Rel.live_get {KR : KRelT} {ρ : Ren} {H : Nat → Option MObj} {K : Nat → Option LObj} {n : Nat} {w : World} (h : Rel KR ρ H K n w) {b : Nat} (hb : Live H K b) : ∃ r m x, ρ b = some (r, m) ∧ w.heap[r]? = some x := by
  rcases hb with hb | hb
  · cases ho : H b with
    | none => exact absurd ho hb
    | some o => obtain ⟨r, m, x, h1, h2, _⟩ := h.data b o ho; exact ⟨r, m, x, h1, h2⟩
  · cases ho : K b with
    | none => exact absurd ho hb
    | some o => obtain ⟨r, m, x, h1, h2, _⟩ := h.ctl b o ho; exact ⟨r, m, x, h1, h2⟩

/-- From one memory to the next. -/
structure Step (KR : KRelT) (ρ : Ren) (H : Nat → Option MObj) (K : Nat → Option LObj) (n : Nat) (w : World) (ρ' : Ren) (H' : Nat → Option MObj) (K' : Nat → Option LObj) (n' : Nat) (w' : World) : Prop where
  sub : Sub ρ ρ'
  rel : Rel KR ρ' H' K' n' w'
  le : n ≤ n'
  size : w.heap.size ≤ w'.heap.size
  tape : w'.tape = w.tape
  os : w'.os = w.os
  output : w'.output = w.output
  dom : ∀ b, Live H' K' b → Live H K b ∨ n ≤ b
  own : ∀ b r m, Live H' K' b → ρ' b = some (r, m) → w.heap.size ≤ r ∨ ∃ c m', Live H K c ∧ ρ c = some (r, m')
  keep : ∀ r x, w.heap[r]? = some x → (∀ c m', Live H K c → ρ c ≠ some (r, m')) → w'.heap[r]? = some x
  old : ∀ b, b < n → ρ' b = ρ b

section
variable {KR : KRelT} {ρ ρ' ρ'' : Ren} {H H' H'' : Nat → Option MObj} {K K' K'' : Nat → Option LObj} {n n' n'' : Nat} {w w' w'' : World}

theorem get_lt {α : Type} {a : Array α} {r : Nat} {x : α} (h : a[r]? = some x) : r < a.size := (Array.getElem?_eq_some_iff.1 h).1

theorem Step.refl (h : Rel KR ρ H K n w) : Step KR ρ H K n w ρ H K n w :=
  ⟨.refl _, h, Nat.le_refl _, Nat.le_refl _, rfl, rfl, rfl, fun _ h => Or.inl h, fun b r m hb hr => Or.inr ⟨b, m, hb, hr⟩, fun _ _ h _ => h, fun _ _ => rfl⟩

theorem Step.trans (h : Step KR ρ H K n w ρ' H' K' n' w') (k : Step KR ρ' H' K' n' w' ρ'' H'' K'' n'' w'') : Step KR ρ H K n w ρ'' H'' K'' n'' w'' := by
  refine ⟨h.sub.trans k.sub, k.rel, Nat.le_trans h.le k.le, Nat.le_trans h.size k.size, k.tape.trans h.tape, k.os.trans h.os, k.output.trans h.output, fun b hb => ?_, fun b r m hb hr => ?_, fun r x hx hn => ?_, fun b hb => (k.old b (Nat.lt_of_lt_of_le hb h.le)).trans (h.old b hb)⟩
  · rcases k.dom b hb with h1 | h1
    · exact h.dom b h1
    · exact Or.inr (Nat.le_trans h.le h1)
  · rcases k.own b r m hb hr with h1 | ⟨c, m', h1, h2⟩
    · exact Or.inl (Nat.le_trans h.size h1)
    · exact h.own c r m' h1 h2
  · refine k.keep r x (h.keep r x hx hn) fun c m' hc e => ?_
    rcases h.own c r m' hc e with h1 | ⟨d, m2, h1, h2⟩
    · exact absurd (get_lt hx) (by omega)
    · exact hn d m2 h1 h2

/-- Only the tape's count has gone on. -/
theorem Rel.drawn (h : Rel KR ρ H K n w) (k : Nat) : Rel KR ρ H K n { w with drawn := k } := ⟨h.fresh, h.data, h.ctl, h.inj, h.apart⟩
theorem Step.drawn (h : Rel KR ρ H K n w) (k : Nat) : Step KR ρ H K n w ρ H K n { w with drawn := k } :=
  ⟨.refl _, h.drawn k, Nat.le_refl _, Nat.le_refl _, rfl, rfl, rfl, fun _ h => Or.inl h, fun b r m hb hr => Or.inr ⟨b, m, hb, hr⟩, fun _ _ h _ => h, fun _ _ => rfl⟩

/-- A block laid anew. -/
def upd (H : Nat → Option MObj) (b : Nat) (o : Option MObj) : Nat → Option MObj := fun c => if c = b then o else H c

theorem get_set_fun (h : Heap) (b : Nat) (o : Option MObj) : (h.set b o).get = upd h.get b o := by
  funext c; rw [Trie.get_set]; rfl

def ext (ρ : Ren) (b : Nat) (x : Nat × Nat) : Ren := fun c => if c = b then some x else ρ c
theorem ext_same (ρ : Ren) (b : Nat) (x : Nat × Nat) : ext ρ b x b = some x := by simp [ext]
theorem ext_other {ρ : Ren} {b c : Nat} {x : Nat × Nat} (h : c ≠ b) : ext ρ b x c = ρ c := by simp [ext, h]
theorem ext_sub {ρ : Ren} {b : Nat} {x : Nat × Nat} (h : ρ b = none) : Sub ρ (ext ρ b x) := by
  intro c y hc
  rw [ext_other (by rintro rfl; rw [h] at hc; cases hc)]
  exact hc

theorem live_upd {b : Nat} {o : Option MObj} {c : Nat} (hc : Live (upd H b o) K c) : c = b ∨ Live H K c := by
  by_cases e : c = b
  · exact Or.inl e
  · refine Or.inr ?_
    rcases hc with hc | hc
    · exact Or.inl (by simpa [upd, e] using hc)
    · exact Or.inr hc

/-- A new block. -/
theorem Rel.alloc (hK : KMono KR) (h : Rel KR ρ H K n w) {b : Nat} (hb : ρ b = none) {x : Obj} {m : Nat} {o : MObj} (ho : ORel ρ m o x) (n' : Nat) (hn : n ≤ n') (hbn : b < n') (w' : World)
    (hw : w'.heap = w.heap.push x) : Rel KR (ext ρ b (w.heap.size, m)) (upd H b (some o)) K n' w' := by
  have hsub : Sub ρ (ext ρ b (w.heap.size, m)) := ext_sub hb
  have hget : ∀ (r : Nat) (x : Obj), w.heap[r]? = some x → w'.heap[r]? = some x := by
    intro r x hx
    rw [hw, Array.getElem?_push_lt (get_lt hx)]
    obtain ⟨h1, h2⟩ := Array.getElem?_eq_some_iff.1 hx
    rw [h2]
  have hold : ∀ c r m1, Live H K c → ext ρ b (w.heap.size, m) c = some (r, m1) → r < w.heap.size ∧ ρ c = some (r, m1) := by
    intro c r m1 hc e
    obtain ⟨r1, k1, y1, h1, h2⟩ := h.live_get hc
    rw [hsub _ _ h1] at e
    simp only [Option.some.injEq, Prod.mk.injEq] at e
    obtain ⟨rfl, rfl⟩ := e
    exact ⟨get_lt h2, h1⟩
  refine ⟨fun c hc => ?_, fun c p hp => ?_, fun c l hl => ?_, fun c d r m1 m2 hc hd e1 e2 => ?_, fun c p hp => ?_⟩
  · rw [ext_other (by omega)]
    exact h.fresh c (by omega)
  · by_cases e : c = b
    · subst e
      simp only [upd, if_true, Option.some.injEq] at hp
      subst hp
      exact ⟨w.heap.size, m, x, ext_same _ _ _, by rw [hw]; simp, ho.mono hsub⟩
    · simp only [upd, e, if_false] at hp
      obtain ⟨r, m1, y, h1, h2, h3⟩ := h.data c p hp
      exact ⟨r, m1, y, hsub _ _ h1, hget _ _ h2, h3.mono hsub⟩
  · obtain ⟨r, m1, y, h1, h2, h3⟩ := h.ctl c l hl
    exact ⟨r, m1, y, hsub _ _ h1, hget _ _ h2, hK _ _ _ _ hsub h3⟩
  · rcases live_upd hc with rfl | hc' <;> rcases live_upd hd with e | hd'
    · exact e.symm
    · rw [ext_same] at e1
      simp only [Option.some.injEq, Prod.mk.injEq] at e1
      have := (hold d r m2 hd' e2).1
      omega
    · subst e
      rw [ext_same] at e2
      simp only [Option.some.injEq, Prod.mk.injEq] at e2
      have := (hold c r m1 hc' e1).1
      omega
    · exact h.inj c d _ _ _ hc' hd' (hold c r m1 hc' e1).2 (hold d r m2 hd' e2).2
  · by_cases e : c = b
    · subst e
      cases hk : K c with
      | none => rfl
      | some l => obtain ⟨r, m1, y, h1, _⟩ := h.ctl c l hk; rw [hb] at h1; cases h1
    · simp only [upd, e, if_false] at hp
      exact h.apart c p hp

theorem Step.alloc (hK : KMono KR) (h : Rel KR ρ H K n w) {x : Obj} {m : Nat} {o : MObj} (ho : ORel ρ m o x) (w' : World)
    (hw : w'.heap = w.heap.push x) (ht : w'.tape = w.tape) (hos : w'.os = w.os) (hout : w'.output = w.output) :
    Step KR ρ H K n w (ext ρ n (w.heap.size, m)) (upd H n (some o)) K (n + 1) w' := by
  have hb : ρ n = none := h.fresh n (Nat.le_refl _)
  refine ⟨ext_sub hb, h.alloc hK hb ho (n + 1) (by omega) (by omega) w' hw, by omega, by rw [hw]; simp, ht, hos, hout, fun c hc => ?_, fun c r m1 hc e => ?_, fun r x hx _ => ?_, fun c hc => ext_other (by omega)⟩
  · rcases live_upd hc with rfl | hc'
    · exact Or.inr (Nat.le_refl _)
    · exact Or.inl hc'
  · rcases live_upd hc with rfl | hc'
    · rw [ext_same] at e
      simp only [Option.some.injEq, Prod.mk.injEq] at e
      exact Or.inl (by omega)
    · obtain ⟨r1, k1, y1, h1, _⟩ := h.live_get hc'
      rw [ext_sub hb _ _ h1] at e
      simp only [Option.some.injEq, Prod.mk.injEq] at e
      obtain ⟨rfl, rfl⟩ := e
      exact Or.inr ⟨c, _, hc', h1⟩
  · rw [hw, Array.getElem?_push_lt (get_lt hx)]
    obtain ⟨h1, h2⟩ := Array.getElem?_eq_some_iff.1 hx
    rw [h2]

/-- A block of data changed in place. -/
theorem Step.write (h : Rel KR ρ H K n w) {b r m : Nat} {o o' : MObj} {x x' : Obj} (hb : H b = some o) (hr : ρ b = some (r, m)) (hx : w.heap[r]? = some x) (ho : ORel ρ m o' x') (w' : World)
    (hw : ∀ k, w'.heap[k]? = if k = r then some x' else w.heap[k]?) (ht : w'.tape = w.tape) (hos : w'.os = w.os) (hout : w'.output = w.output) :
    Step KR ρ H K n w ρ (upd H b (some o')) K n w' := by
  have hlb : Live H K b := Or.inl (by rw [hb]; simp)
  have hlive : ∀ c, Live (upd H b (some o')) K c → Live H K c := by
    intro c hc
    by_cases e : c = b
    · rw [e]; exact hlb
    · rcases hc with hc | hc
      · exact Or.inl (by simpa [upd, e] using hc)
      · exact Or.inr hc
  have hsz : w'.heap.size = w.heap.size := by
    have hr' := get_lt hx
    by_cases h1 : w'.heap.size < w.heap.size
    · have h2 := hw w'.heap.size
      rw [Array.getElem?_eq_none (Nat.le_refl _)] at h2
      split at h2
      · cases h2
      · rw [Array.getElem?_eq_getElem h1] at h2; cases h2
    · by_cases h2 : w.heap.size < w'.heap.size
      · have h3 := hw w.heap.size
        rw [Array.getElem?_eq_getElem h2, if_neg (by omega), Array.getElem?_eq_none (Nat.le_refl _)] at h3
        cases h3
      · omega
  refine ⟨.refl _, ⟨h.fresh, fun c p hp => ?_, fun c l hl => ?_, fun c d r1 m1 m2 hc hd => h.inj c d r1 m1 m2 (hlive c hc) (hlive d hd), fun c p hp => ?_⟩, Nat.le_refl _, by omega, ht, hos, hout, fun c hc => Or.inl (hlive c hc),
    fun c r1 m1 hc e => Or.inr ⟨c, m1, hlive c hc, e⟩, fun k y hy hn => ?_, fun _ _ => rfl⟩
  · by_cases e : c = b
    · subst e
      simp only [upd, if_true, Option.some.injEq] at hp
      subst hp
      exact ⟨r, m, x', hr, by rw [hw, if_pos rfl], ho⟩
    · simp only [upd, e, if_false] at hp
      obtain ⟨r1, m1, y, h1, h2, h3⟩ := h.data c p hp
      refine ⟨r1, m1, y, h1, ?_, h3⟩
      rw [hw, if_neg, h2]
      rintro rfl
      exact e (h.inj c b _ _ _ (Or.inl (by rw [hp]; simp)) hlb h1 hr)
  · obtain ⟨r1, m1, y, h1, h2, h3⟩ := h.ctl c l hl
    have e : c ≠ b := by
      rintro rfl
      rw [h.apart c o hb] at hl
      cases hl
    refine ⟨r1, m1, y, h1, ?_, h3⟩
    rw [hw, if_neg, h2]
    rintro rfl
    exact e (h.inj c b _ _ _ (Or.inr (by rw [hl]; simp)) hlb h1 hr)
  · by_cases e : c = b
    · rw [e]; exact h.apart b o hb
    · simp only [upd, e, if_false] at hp
      exact h.apart c p hp
  · rw [hw, if_neg, hy]
    rintro rfl
    exact hn b m hlb hr

end
end Go.Cm

/-
  The C machine, part L: reading memory.
-/
namespace Go.Cm

section
variable {P : Program} {C : Cx}

def RSound (P : Program) (C : Cx) (op : Op) (f : RFn) : Prop :=
  ∀ (KR : KRelT) (S : Nat → Prop) (ρ : Ren) (e : Env) (a : Act) (w : World) (v : CV) (o : Oper) (h : Heap) (H : Nat → Option MObj) (K : Nat → Option LObj) (n : Nat),
    SRel C S ρ e a.tmps → GRel C.ng ρ → (∀ t, .tmp t ∈ op.operands → S t) → o.op = op → Rel KR ρ H K n w → (∀ b x, h.get b = some x → H b = some x) → f e h = some v →
    ∃ v', Yields P (execOp a.eval o) w v' ∧ VRel ρ v v'

section
variable {KR : KRelT} {ρ : Ren} {H : Nat → Option MObj} {K : Nat → Option LObj} {n : Nat} {w : World}

theorem Rel.cells (h : Rel KR ρ H K n w) {b : Nat} {vs : List CV} {el : Nat} {fz : Nat × Nat} (hb : H b = some (.cells vs el fz)) :
    ∃ r m c fz', ρ b = some (r, m) ∧ w.heap[r]? = some (.cells c el fz') ∧ c.size = m ∧ vs.length ≤ m ∧ LRel ρ vs (c.toList.take vs.length) ∧ FzRel m fz fz' := by
  obtain ⟨r, m, x, h1, h2, h3⟩ := h.data b _ hb
  cases x <;> first | exact h3.elim | skip
  obtain ⟨rfl, h4, h5, h6, h7⟩ := h3
  exact ⟨r, m, _, _, h1, h2, h4, h5, h6, h7⟩

def EsRel (ρ : Ren) : List (CV × CV × Nat) → List MapEntry → Prop
  | [], [] => True
  | e :: es, e' :: es' => ERel ρ e e' ∧ EsRel ρ es es'
  | _, _ => False

theorem esRel_of {ρ : Ren} : ∀ {es : List (CV × CV × Nat)} {es' : List MapEntry}, es.length = es'.length → (∀ (i : Nat) (h1 : i < es.length) (h2 : i < es'.length), ERel ρ es[i] es'[i]) → EsRel ρ es es'
  | [], [], _, _ => trivial
  | e :: es, e' :: es', hl, h => ⟨h 0 (by simp) (by simp), esRel_of (by simpa using hl) fun i a b => h (i + 1) (by simpa using a) (by simpa using b)⟩
  | [], _ :: _, hl, _ => by simp at hl
  | _ :: _, [], hl, _ => by simp at hl
theorem EsRel.len {ρ : Ren} : ∀ {es : List (CV × CV × Nat)} {es' : List MapEntry}, EsRel ρ es es' → es.length = es'.length
  | [], [], _ => rfl
  | _ :: _, _ :: _, h => by simp [h.2.len]
  | [], _ :: _, h => h.elim
  | _ :: _, [], h => h.elim
theorem EsRel.at {ρ : Ren} : ∀ {es : List (CV × CV × Nat)} {es' : List MapEntry}, EsRel ρ es es' → ∀ (i : Nat) (h1 : i < es.length) (h2 : i < es'.length), ERel ρ es[i] es'[i]
  | [], [], _, i, h1, _ => by simp at h1
  | _ :: _, _ :: _, h, 0, _, _ => h.1
  | _ :: _, _ :: _, h, i + 1, h1, h2 => h.2.at i (by simpa using h1) (by simpa using h2)
  | [], _ :: _, h, _, _, _ => h.elim
  | _ :: _, [], h, _, _, _ => h.elim

theorem Rel.map (h : Rel KR ρ H K n w) {b : Nat} {es : List (CV × CV × Nat)} {k : Nat} (hb : H b = some (.map es k)) :
    ∃ r m es', ρ b = some (r, m) ∧ w.heap[r]? = some (.map es' k) ∧ EsRel ρ es es'.toList := by
  obtain ⟨r, m, x, h1, h2, h3⟩ := h.data b _ hb
  cases x <;> first | exact h3.elim | skip
  obtain ⟨rfl, h4, h5⟩ := h3
  exact ⟨r, m, _, h1, h2, esRel_of (by simpa using h4) fun i a b => by simpa using h5 i a (by simpa using b)⟩

theorem asCells_some {α : Type} {o : Option MObj} {f : List CV → Nat → Nat × Nat → Option α} {r : α} (h : asCells o f none = some r) : ∃ vs el fz, o = some (.cells vs el fz) ∧ f vs el fz = some r := by
  unfold asCells at h
  split at h
  · exact ⟨_, _, _, rfl, h⟩
  · cases h
theorem asMapO_some {α : Type} {o : Option MObj} {f : List (CV × CV × Nat) → Nat → Option α} {r : α} (h : asMapO o f none = some r) : ∃ es c, o = some (.map es c) ∧ f es c = some r := by
  unfold asMapO at h
  split at h
  · exact ⟨_, _, rfl, h⟩
  · cases h

end

theorem cell_at {w : World} {r o : Nat} {c : Array Value} {el : Nat} {fz : Nat × Nat} (h : w.heap[r]? = some (.cells c el fz)) : w.cell? ⟨r, o, none⟩ = c[o]? := by
  simp [World.cell?, h]

theorem take_get {α : Type} {l : List α} {k i : Nat} {x : α} (h : (l.take k)[i]? = some x) : l[i]? = some x := by
  rw [List.getElem?_take] at h
  split at h
  · exact h
  · cases h

/-- Cells read in a row. -/
theorem run_cells {w : World} {r o n : Nat} {c : Array Value} {el : Nat} {fz : Nat × Nat} (h : w.heap[r]? = some (.cells c el fz)) (hn : o + n ≤ c.size) :
    (loadCells ⟨r, o, none⟩ n).run P w = .ok ((c.toList.drop o).take n).toArray w := by
  have hl : ((c.toList.drop o).take n).length = n := by simp; omega
  have := run_loadCells_list (P := P) w ⟨r, o, none⟩ ((c.toList.drop o).take n) fun j v hj => by
    rw [addr_add, cell_at h]
    have := take_get hj
    simpa using this
  rwa [hl] at this

theorem load_sound (hC : CxOk P C) {t : TypeId} {x : Operand} {y : COpd} {i : TI} (hi : C.ti t = some i) (hx : opd C x = some y) : RSound P C (.load t x) (rLoad (isAggD i.under) i.size y) := by
  intro KR S ρ e a w v o h H K n hs hg hR ho hrel hsub hf
  have hr := opd_rel hs hg hR (by simp [Op.operands]) hx
  obtain ⟨b, q, e1, f1⟩ := asPtr_some.1 hf
  obtain ⟨vs, el, fz, e2, f2⟩ := asCells_some f1
  rw [e1] at hr
  obtain ⟨r, m, e3, hb⟩ := hr.ptr_inv
  obtain ⟨r', m', c, fz', h1, h2, h3, h4, h5, _⟩ := hrel.cells (hsub _ _ e2)
  rw [hb] at h1
  simp only [Option.some.injEq, Prod.mk.injEq] at h1
  obtain ⟨rfl, rfl⟩ := h1
  have fin : ∀ X, (loadVar t ⟨r, q, none⟩).run P w = .ok X w → Yields P (execOp a.eval o) w X := by
    intro X hX
    refine .now ?_
    unfold execOp
    rw [ho]
    simp [Instr.loadAt, e3, Instr.sureAddr, hX]
  cases ha : isAggD i.under with
  | true =>
    rw [ha] at f2
    obtain ⟨g1, g2⟩ := cnd_some.1 (show cnd (lenGe vs (q + i.size)) (some (.agg (takeL (dropL vs q) i.size))) none = some v from f2)
    simp only [Option.some.injEq] at g2
    subst g2
    rw [lenGe_eq, decide_eq_true_eq] at g1
    refine ⟨.agg ((c.toList.drop q).take i.size).toArray, fin _ ?_, VRel.agg_iff.2 ⟨_, rfl, ?_⟩⟩
    · simp only [loadVar, Sem.run_bind, run_isAgg (hC.under hi), Result.andThen_ok, ha, if_true, hC.run_size hi, run_cells h2 (by omega : q + i.size ≤ c.size)]
      rfl
    · rw [takeL_eq, dropL_eq]
      have := (h5.drop q).take i.size
      rw [List.drop_take, List.take_take, Nat.min_eq_left (by omega)] at this
      simpa using this
  | false =>
    rw [ha] at f2
    have g1 : nthO vs q = some v := f2
    rw [nthO_eq] at g1
    obtain ⟨X, hX, hv⟩ := h5.get? g1
    have hX' : c[q]? = some X := by have := take_get hX; simpa using this
    refine ⟨X, fin _ ?_, hv⟩
    simp only [loadVar, Sem.run_bind, run_isAgg (hC.under hi), Result.andThen_ok, ha, Bool.false_eq_true, if_false]
    rw [run_load, cell_at h2, hX']

/-! Maps. -/

theorem run_getObj_map {w : World} {r : Nat} {es : Array MapEntry} {k : Nat} (h : w.heap[r]? = some (.map es k)) : (getObj r).run P w = .ok (.map es k) w := by
  simp only [getObj, Sem.run, h]
theorem run_getObj_iter {w : World} {r : Nat} {m : Option Nat} {s : Nat} {seen : Array Nat} {l : Nat} (h : w.heap[r]? = some (.mapIter m s seen l)) : (getObj r).run P w = .ok (.mapIter m s seen l) w := by
  simp only [getObj, Sem.run, h]

theorem flatEqs_refl : ∀ {sh : List FS} {x : List CV} {b : Bool}, flatEqs sh x x = some b → b = true
  | [], x, b, h => (flatEqs_nil h).2.2
  | s :: sh, x, b, h => by
    obtain ⟨c, x', d, y', r, rfl, e, h1, h2, h3⟩ := flatEqs_cons h
    simp only [List.cons.injEq] at e
    obtain ⟨rfl, rfl⟩ := e
    have hr : r = true := by
      cases s
      · obtain ⟨p, q, rfl, e, rfl⟩ := flatEq_bool h1; cases e; simp
      · obtain ⟨k, p, q, rfl, e, rfl⟩ := flatEq_int h1; cases e; simp
      · obtain ⟨p, q, rfl, e, rfl⟩ := flatEq_str h1; cases e; rw [bytesEq_eq]; simp
    exact flatEqs_refl (h2 hr)

theorem flat_check (hC : CxOk P C) (empty : Bool) (w : World) : ∀ (d D : Nat), d ≤ D → ∀ (t : Nat) (sh : List FS) (i : TI), flatShape C d t = some sh → C.ti t = some i →
    ∀ (us : List Value) (X : Value), us.length = sh.length → Shaped i.under us X → (Instr.checkKey empty D t X).run P w = .ok () w
  | 0, _, _, _, _, _, h, _, _, _, _, _ => by cases h
  | d + 1, 0, hD, _, _, _, _, _, _, _, _, _ => by omega
  | d + 1, D + 1, hD, t, sh, i, h, hi, us, X, hl, hs => by
    have hu := hC.under hi
    unfold flatShape at h
    rw [hi] at h
    simp only at h
    cases hu' : i.under <;> rw [hu'] at h hu <;> simp only [reduceCtorEq, Option.some.injEq] at h
    case bool => rw [Instr.checkKey]; simp only [Sem.run_bind, run_underlying hu, Result.andThen_ok]; rfl
    case int => rw [Instr.checkKey]; simp only [Sem.run_bind, run_underlying hu, Result.andThen_ok]; rfl
    case string => rw [Instr.checkKey]; simp only [Sem.run_bind, run_underlying hu, Result.andThen_ok]; rfl
    case struct fs =>
      cases hh : C.held t with
      | true => simp [hh] at h
      | false =>
        simp only [hh] at h
        rcases hs with ⟨_, rfl⟩ | ⟨ha, _⟩
        · rw [Instr.checkKey]
          simp only [Sem.run_bind, run_underlying hu, Result.andThen_ok]
          have key : ∀ (l : List Field) (off : Nat) (sh : List FS), flatFields C (flatShape C d) off l = some sh → off + sh.length ≤ us.length → ∀ f ∈ l,
              (if f.name ≠ "_" then (do let x ← part f.type us.toArray f.offset; Instr.checkKey empty D f.type x) else pure ()).run P w = .ok () w := by
            intro l
            induction l with
            | nil => intro _ _ _ _ f hf; simp at hf
            | cons f l ih =>
              intro off sh h hlen g hg
              unfold flatFields at h
              split at h
              · rename_i j sh1 e1 e2 e3
                split at h
                · rename_i rest e4 e5
                  simp only [Option.some.injEq] at h
                  subst h
                  rw [List.length_append] at hlen
                  rcases List.mem_cons.1 hg with rfl | hg
                  · simp only [Bool.and_eq_true, bne_iff_ne, ne_eq] at e1
                    obtain ⟨e1, e1'⟩ := e1
                    have hoff : g.offset = off := by simpa using e1
                    have hsz : sh1.length = j.size := by simpa using e4
                    rw [if_pos e1']
                    have hlen1 : ((us.toArray.toList.drop off).take j.size).length = sh1.length := by simp; omega
                    obtain ⟨X, hX, sX⟩ := run_part hC e2 us.toArray off w fun ha => by
                      have := flat_len d _ _ _ e3 e2 ha
                      exact List.length_eq_one_iff.1 (hlen1.trans this)
                    simp only [Sem.run_bind, hoff, hX, Result.andThen_ok]
                    exact flat_check hC empty w d D (by omega) _ _ _ e3 e2 _ _ hlen1 sX
                  · exact ih _ _ e5 (by omega) g hg
                · cases h
              · cases h
          have key' := key _ _ _ h (by omega)
          clear h key hl hu hu'
          rw [← Array.forIn_toList]
          generalize fs.toList = l at key'
          induction l with
          | nil => rfl
          | cons f l ih =>
            have h0 := key' f (by simp)
            have h1 := ih fun f hf => key' f (by simp [hf])
            simp only [List.forIn_cons, Sem.run_bind, Sem.run_ite] at h0 h1 ⊢
            split
            · rename_i hn
              rw [if_pos hn] at h0
              cases hp : (part f.type us.toArray f.offset).run P w with
              | halt x w1 => rw [hp] at h0; cases h0
              | ok a w1 =>
                rw [hp, Result.andThen_ok] at h0
                simp only [Result.andThen_ok, h0, Sem.run_pure]
                exact h1
            · exact h1
        · rw [hu'] at ha; cases ha

theorem keyShape_some {kt : Nat} {K : KS} (h : keyShape C kt = some K) : ∃ i, C.ti kt = some i ∧
    ((i.under = .bool ∧ K = .one .bool) ∨ (∃ k, i.under = .int k ∧ K = .one .int) ∨ (i.under = .string ∧ K = .one .str) ∨ ∃ fs sh, i.under = .struct fs ∧ K = .agg sh ∧ flatShape C 8 kt = some sh) := by
  unfold keyShape at h
  cases hi : C.ti kt with
  | none => simp [hi] at h
  | some i =>
    refine ⟨i, rfl, ?_⟩
    simp only [hi] at h
    cases hu : i.under <;> simp only [hu, reduceCtorEq, Option.some.injEq, Option.map_eq_some_iff] at h
    · exact Or.inl ⟨rfl, h.symm⟩
    · exact Or.inr (Or.inl ⟨_, rfl, h.symm⟩)
    · exact Or.inr (Or.inr (Or.inl ⟨rfl, h.symm⟩))
    · obtain ⟨sh, h1, h2⟩ := h
      exact Or.inr (Or.inr (Or.inr ⟨_, sh, rfl, h2.symm, h1⟩))

theorem checkKey_rel (hC : CxOk P C) {kt : Nat} {K : KS} (h : keyShape C kt = some K) {ρ : Ren} {k : CV} {u : Value} (hk : VRel ρ k u) (ho : keyOk K k = true) (empty : Bool) (w : World) : (Instr.checkKey empty 10000 kt u).run P w = .ok () w := by
  obtain ⟨i, hi, hc⟩ := keyShape_some h
  have hu := hC.under hi
  rcases hc with ⟨e, rfl⟩ | ⟨l, e, rfl⟩ | ⟨e, rfl⟩ | ⟨fs, sh, e, rfl, hsh⟩
  · rw [e] at hu; rw [Instr.checkKey]; simp only [Sem.run_bind, run_underlying hu, Result.andThen_ok]; rfl
  · rw [e] at hu; rw [Instr.checkKey]; simp only [Sem.run_bind, run_underlying hu, Result.andThen_ok]; rfl
  · rw [e] at hu; rw [Instr.checkKey]; simp only [Sem.run_bind, run_underlying hu, Result.andThen_ok]; rfl
  · cases k <;> simp only [keyOk, asAgg, Bool.false_eq_true] at ho
    rename_i cs
    obtain ⟨us, rfl, hl⟩ := VRel.agg_iff.1 hk
    cases hf : flatEqs sh cs cs with
    | none => rw [hf] at ho; cases ho
    | some b =>
      have hb := flatEqs_refl hf
      subst hb
      have h1 := (flatEqs_len hf).1
      exact flat_check hC empty w 8 10000 (by omega) kt sh i hsh hi us.toList _ (by have := hl.1; omega) (Or.inl ⟨by rw [e]; rfl, rfl⟩)

/-- Keys that are equal here are alike there. -/
theorem flatEq_bits {s : FS} {ρ : Ren} {c d : CV} {u v : Value} (hc : VRel ρ c u) (hd : VRel ρ d v) (h : flatEq s c d = some true) (n : Nat) : Instr.sameBits n v u = true := by
  cases s
  · obtain ⟨p, q, rfl, rfl, e⟩ := flatEq_bool h
    rw [hc.bool_inv, hd.bool_inv]
    have : p = q := by simpa using e.symm
    subst this
    cases n <;> simp [Instr.sameBits]
  · obtain ⟨k, p, q, rfl, rfl, e⟩ := flatEq_int h
    rw [hc.int_inv, hd.int_inv]
    have : p = q := by simpa using e
    subst this
    cases n <;> simp [Instr.sameBits]
  · obtain ⟨p, q, rfl, rfl, e⟩ := flatEq_str h
    obtain ⟨s1, rfl, rfl⟩ := hc.str_inv
    obtain ⟨s2, rfl, rfl⟩ := hd.str_inv
    rw [bytesEq_eq] at e
    have e1 := map_toNat_inj _ _ (by simpa using e)
    have : s2 = s1 := by
      cases s1; cases s2
      simp only [ByteArray.mk.injEq] at e1 ⊢
      exact (Array.ext' e1).symm
    subst this
    have hb : (s2 == s2) = true := by rw [beq_toListBytes]; simp
    cases n <;> simp [Instr.sameBits, hb]

theorem flatEqs_bits {ρ : Ren} (n : Nat) : ∀ {sh : List FS} {xs ys : List CV} {us vs : List Value}, LRel ρ xs us → LRel ρ ys vs → flatEqs sh xs ys = some true → ((vs.zip us).all fun (x, y) => Instr.sameBits n x y) = true
  | [], xs, ys, us, vs, hx, hy, h => by
    obtain ⟨rfl, rfl, _⟩ := flatEqs_nil h
    rw [hx.nil_left, hy.nil_left]
    rfl
  | s :: sh, xs, ys, us, vs, hx, hy, h => by
    obtain ⟨c, x', d, y', r, rfl, rfl, h1, h2, h3⟩ := flatEqs_cons h
    obtain ⟨u, us, rfl, hc, hx⟩ := hx.cons_left
    obtain ⟨v, vs, rfl, hd, hy⟩ := hy.cons_left
    cases r with
    | false => have := h3 rfl; simp at this
    | true =>
      simp only [List.zip_cons_cons, List.all_cons, Bool.and_eq_true]
      exact ⟨flatEq_bits hc hd h1 n, flatEqs_bits n hx hy (h2 rfl)⟩

theorem keyEq_bits {K : KS} {ρ : Ren} {c d : CV} {u v : Value} (hc : VRel ρ c u) (hd : VRel ρ d v) (h : keyEq K c d = some true) : Instr.sameBits 10000 v u = true := by
  cases K with
  | one s => exact flatEq_bits hc hd h 10000
  | agg l =>
    obtain ⟨xs, rfl, h1⟩ := asAgg_some.1 h
    obtain ⟨ys, rfl, h2⟩ := asAgg_some.1 h1
    obtain ⟨us, rfl, hx⟩ := VRel.agg_iff.1 hc
    obtain ⟨vs, rfl, hy⟩ := VRel.agg_iff.1 hd
    obtain ⟨l1, l2⟩ := flatEqs_len h2
    have e : vs.size = us.size := by have := hx.1; have := hy.1; simp at *; omega
    rw [Instr.sameBits]
    simp only [Bool.and_eq_true, beq_iff_eq]
    exact ⟨e, flatEqs_bits 9999 hx hy h2⟩

/-! The place of a key. -/

/-- What 'findKey' tells. -/
def FoundRel (ρ : Ren) (K : KS) (k : CV) (es : List (CV × CV × Nat)) (es' : List MapEntry) (i : Nat) : Found → Option (Nat × Value) → Prop
  | .bad, _ => True
  | .no, r => r = none
  | .yes j v s, r => ∃ d e e', j = i + d ∧ es[d]? = some e ∧ es'[d]? = some e' ∧ r = some (j, e'.val) ∧ e.2.1 = v ∧ e.2.2 = s ∧ ERel ρ e e' ∧ keyEq K k e.1 = some true

theorem findKey_cons (K : KS) (k : CV) (e : CV × CV × Nat) (es : List (CV × CV × Nat)) (i : Nat) :
    findKey K k (e :: es) i = Option.rec (motive := fun _ => Found) .bad (fun b => cnd b (.yes i e.2.1 e.2.2) (findKey K k es (i + 1))) (keyEq K k e.1) := rfl

theorem FoundRel.next {ρ : Ren} {K : KS} {k : CV} {e : CV × CV × Nat} {e' : MapEntry} {es : List (CV × CV × Nat)} {es' : List MapEntry} {i : Nat} {f : Found} {r : Option (Nat × Value)} (h : FoundRel ρ K k es es' (i + 1) f r) : FoundRel ρ K k (e :: es) (e' :: es') i f r := by
  cases f with
  | bad => trivial
  | no => exact h
  | yes j v s =>
    obtain ⟨d, x, x', h1, h2, h3, h4⟩ := h
    exact ⟨d + 1, x, x', by omega, by simpa using h2, by simpa using h3, h4⟩

theorem findNow_rel {ρ : Ren} {K : KS} {k : CV} {u : Value} {d : TypeDesc} (hs : ∀ c v b, VRel ρ c v → keyEq K k c = some b → Instr.sameNow d u v = some b) :
    ∀ (es : List (CV × CV × Nat)) (es' : List MapEntry) (i : Nat), EsRel ρ es es' → findKey K k es i ≠ .bad → ∃ r, Instr.findNow d u es' i = some r ∧ FoundRel ρ K k es es' i (findKey K k es i) r
  | [], [], i, _, _ => ⟨none, rfl, rfl⟩
  | [], _ :: _, _, h, _ => h.elim
  | _ :: _, [], _, h, _ => h.elim
  | e :: es, e' :: es', i, h, hb => by
    rw [findKey_cons] at hb ⊢
    cases hq : keyEq K k e.1 with
    | none => rw [hq] at hb; exact absurd rfl hb
    | some b =>
      rw [hq] at hb
      have hn := hs _ _ _ h.1.1 hq
      cases b with
      | true => exact ⟨some (i, e'.val), by simp [Instr.findNow, hn], 0, e, e', by omega, rfl, rfl, rfl, rfl, rfl, h.1, hq⟩
      | false =>
        obtain ⟨r, h1, h2⟩ := findNow_rel hs es es' (i + 1) h.2 hb
        exact ⟨r, by simp [Instr.findNow, hn, h1], h2.next⟩

theorem findAsking_rel {ρ : Ren} {K : KS} {k : CV} {u : Value} {kt : TypeId} {w : World} (hs : ∀ c v b, VRel ρ c v → keyEq K k c = some b → (Op.equal kt u v).run P w = .ok b w) :
    ∀ (es : List (CV × CV × Nat)) (es' : List MapEntry) (i : Nat), EsRel ρ es es' → findKey K k es i ≠ .bad → ∃ r, (Instr.findAsking kt u es' i).run P w = .ok r w ∧ FoundRel ρ K k es es' i (findKey K k es i) r
  | [], [], i, _, _ => ⟨none, rfl, rfl⟩
  | [], _ :: _, _, h, _ => h.elim
  | _ :: _, [], _, h, _ => h.elim
  | e :: es, e' :: es', i, h, hb => by
    rw [findKey_cons] at hb ⊢
    cases hq : keyEq K k e.1 with
    | none => rw [hq] at hb; exact absurd rfl hb
    | some b =>
      rw [hq] at hb
      have hn := hs _ _ _ h.1.1 hq
      cases b with
      | true => exact ⟨some (i, e'.val), by simp [Instr.findAsking, hn], 0, e, e', by omega, rfl, rfl, rfl, rfl, rfl, h.1, hq⟩
      | false =>
        obtain ⟨r, h1, h2⟩ := findAsking_rel hs es es' (i + 1) h.2 hb
        exact ⟨r, by simp [Instr.findAsking, hn, h1], h2.next⟩

theorem findKey_rel (hC : CxOk P C) {kt : Nat} {K : KS} (h : keyShape C kt = some K) {ρ : Ren} {k : CV} {u : Value} (hk : VRel ρ k u) {es : List (CV × CV × Nat)} {es' : List MapEntry} (he : EsRel ρ es es') (hb : findKey K k es 0 ≠ .bad) (w : World) :
    ∃ r, (Instr.findKey kt u es').run P w = .ok r w ∧ FoundRel ρ K k es es' 0 (findKey K k es 0) r := by
  obtain ⟨i, hi, hc⟩ := keyShape_some h
  have hu := hC.under hi
  rcases hc with ⟨e, rfl⟩ | ⟨l, e, rfl⟩ | ⟨e, rfl⟩ | ⟨fs, sh, e, rfl, hsh⟩
  · rw [e] at hu
    obtain ⟨r, h1, h2⟩ := findNow_rel (u := u) (d := .bool) (fun c v b hv hq => by
      obtain ⟨p, q, rfl, rfl, rfl⟩ := flatEq_bool hq
      rw [hk.bool_inv, hv.bool_inv]; rfl) es es' 0 he hb
    exact ⟨r, by simp [Instr.findKey, run_underlying hu, h1], h2⟩
  · rw [e] at hu
    obtain ⟨r, h1, h2⟩ := findNow_rel (u := u) (d := .int l) (fun c v b hv hq => by
      obtain ⟨k', p, q, rfl, rfl, rfl⟩ := flatEq_int hq
      rw [hk.int_inv, hv.int_inv]; simp [Instr.sameNow]; rfl) es es' 0 he hb
    exact ⟨r, by simp [Instr.findKey, run_underlying hu, h1], h2⟩
  · rw [e] at hu
    obtain ⟨r, h1, h2⟩ := findNow_rel (u := u) (d := .string) (fun c v b hv hq => by
      obtain ⟨p, q, rfl, rfl, rfl⟩ := flatEq_str hq
      obtain ⟨s1, rfl, rfl⟩ := hk.str_inv
      obtain ⟨s2, rfl, rfl⟩ := hv.str_inv
      rw [← bytes_eq, ← beq_toListBytes]; rfl) es es' 0 he hb
    exact ⟨r, by simp [Instr.findKey, run_underlying hu, h1], h2⟩
  · rw [e] at hu
    have ha : isAggD i.under = true := by rw [e]; rfl
    obtain ⟨r, h1, h2⟩ := findAsking_rel (P := P) (w := w) (u := u) (kt := kt) (fun c v b hv hq => by
      obtain ⟨xs, rfl, g1⟩ := asAgg_some.1 hq
      obtain ⟨ys, rfl, g2⟩ := asAgg_some.1 g1
      obtain ⟨us, rfl, hx⟩ := VRel.agg_iff.1 hk
      obtain ⟨vs, rfl, hy⟩ := VRel.agg_iff.1 hv
      exact flat_sound hC ρ w 8 10000 (by omega) kt sh i hsh hi xs ys us.toList vs.toList b _ _ hx hy g2 (Or.inl ⟨ha, rfl⟩) (Or.inl ⟨ha, rfl⟩)) es es' 0 he hb
    refine ⟨r, ?_, h2⟩
    simp only [Instr.findKey, Sem.run_bind, run_underlying hu, Result.andThen_ok]
    cases es' with
    | nil =>
      have : r = none := by
        cases es with
        | nil => exact h2
        | cons _ _ => exact he.elim
      rw [this]; rfl
    | cons e' es' => exact h1

theorem mapZero_some {t : Nat} {K : KS} {z : CV} (h : mapZero C t = some (K, z)) : ∃ i kt et ei, C.ti t = some i ∧ i.under = .map kt et ∧ keyShape C kt = some K ∧ C.ti et = some ei ∧ ei.zero = some z := by
  unfold mapZero at h
  cases hi : C.ti t with
  | none => simp [hi] at h
  | some i =>
    simp only [hi] at h
    cases hu : i.under <;> simp only [hu, reduceCtorEq] at h
    rename_i kt et
    cases h1 : keyShape C kt with
    | none => simp [h1] at h
    | some K' => cases h2 : C.ti et with
      | none => simp [h1, h2] at h
      | some ei =>
        simp only [h1, h2, Option.map_eq_some_iff, Prod.mk.injEq] at h
        obtain ⟨z', h3, rfl, rfl⟩ := h
        exact ⟨i, kt, et, ei, rfl, hu, h1, h2, h3⟩

theorem run_lookup {t kt et : TypeId} {x k zv : Value} (ok : Bool) {es : Array MapEntry} {r : Option (Nat × Value)} {w : World} (hu : P.underlying t = some (.map kt et))
    (hx : (x = .map none ∧ es = #[]) ∨ ∃ b c, x = .map (some b) ∧ w.heap[b]? = some (.map es c)) (hk : (Instr.checkKey es.isEmpty 10000 kt k).run P w = .ok () w) (hf : (Instr.findKey kt k es.toList).run P w = .ok r w)
    (hz : (zeroValue et).run P w = .ok zv w) : (Instr.lookup t x k ok).run P w = match r with
      | some (_, v) => .ok (if ok then .tuple #[v, .bool true] else v) w
      | none => .ok (if ok then .tuple #[zv, .bool false] else zv) w := by
  rcases hx with ⟨rfl, rfl⟩ | ⟨b, c, rfl, hb⟩
  · simp only [Instr.lookup, Sem.run_bind, run_underlying hu, Result.andThen_ok, Sem.run_pure, hk, hf]
    cases r with
    | none => simp only [Sem.run_bind, hz, Result.andThen_ok, Sem.run_pure]
    | some p => rfl
  · simp only [Instr.lookup, Sem.run_bind, run_underlying hu, Result.andThen_ok, run_getObj_map hb, Sem.run_pure, hk, hf]
    cases r with
    | none => simp only [Sem.run_bind, hz, Result.andThen_ok, Sem.run_pure]
    | some p => rfl

theorem lookup_sound (hC : CxOk P C) {t : TypeId} {m k : Operand} {m' k' : COpd} {K : KS} {z : CV} (ok : Bool) (hz : mapZero C t = some (K, z)) (hm : opd C m = some m') (hk : opd C k = some k') : RSound P C (.lookup t m k ok) (rLookup K z ok m' k') := by
  intro KR S ρ e a w v o h H Kc n hs hg hR ho hrel hsub hf
  have hrm := opd_rel hs hg hR (by simp [Op.operands]) hm
  have hrk := opd_rel hs hg hR (by simp [Op.operands]) hk
  obtain ⟨i, kt, et, ei, hi, hu, hK, he, hze⟩ := mapZero_some hz
  have hu := hu ▸ hC.under hi
  obtain ⟨zv, hzv, hzr⟩ := hC.run_zero he hze w
  obtain ⟨f1, f2⟩ := cnd_some.1 hf
  have main : ∀ (es : List (CV × CV × Nat)) (es' : Array MapEntry), EsRel ρ es es'.toList → lookupIn K z ok (ev e k') es = some v →
      ((a.eval m = .map none ∧ es' = #[]) ∨ ∃ b c, a.eval m = .map (some b) ∧ w.heap[b]? = some (.map es' c)) → ∃ v', Yields P (execOp a.eval o) w v' ∧ VRel ρ v v' := by
    intro es es' hes hl hx
    have hb : findKey K (ev e k') es 0 ≠ .bad := by
      intro hb
      rw [lookupIn, hb] at hl
      cases hl
    obtain ⟨r, g1, g2⟩ := findKey_rel hC hK hrk hes hb w
    have g0 := checkKey_rel hC hK hrk f1 es'.isEmpty w
    have key := run_lookup ok hu hx g0 g1 hzv
    have fin : ∀ X, (Instr.lookup t (a.eval m) (a.eval k) ok).run P w = .ok X w → Yields P (execOp a.eval o) w X := by
      intro X hX
      refine .now ?_
      unfold execOp
      rw [ho]
      simp only [Sem.run_bind, hX, Result.andThen_ok]
      rfl
    cases hfd : findKey K (ev e k') es 0 with
    | bad => exact absurd hfd hb
    | no =>
      rw [hfd] at g2
      have g2 : r = none := g2
      subst g2
      simp only [lookupIn, hfd, Option.some.injEq] at hl
      subst hl
      cases ok with
      | true => exact ⟨_, fin (.tuple #[zv, .bool false]) key, VRel.tuple_iff.2 ⟨_, rfl, .cons (hzr ρ) (.cons (.bool _) (.nil _))⟩⟩
      | false => exact ⟨_, fin zv key, hzr ρ⟩
    | yes j v2 s =>
      rw [hfd] at g2
      obtain ⟨d, x, x', _, _, _, rfl, rfl, _, hx', _⟩ := g2
      simp only [lookupIn, hfd, Option.some.injEq] at hl
      subst hl
      cases ok with
      | true => exact ⟨_, fin (.tuple #[x'.val, .bool true]) key, VRel.tuple_iff.2 ⟨_, rfl, .cons hx'.2.1 (.cons (.bool _) (.nil _))⟩⟩
      | false => exact ⟨_, fin x'.val key, hx'.2.1⟩
  generalize ev e m' = c at hrm f2
  cases c <;> simp only [lookupCV, reduceCtorEq] at f2
  case nilmap => exact main [] #[] trivial f2 (Or.inl ⟨hrm.nilmap_inv, rfl⟩)
  case map b =>
    obtain ⟨es, cl, h1, h2⟩ := asMapO_some f2
    obtain ⟨r, mm, es', h3, h4, h5⟩ := hrel.map (hsub _ _ h1)
    obtain ⟨r', mm', h6, h7⟩ := hrm.map_inv
    rw [h3] at h7
    simp only [Option.some.injEq, Prod.mk.injEq] at h7
    obtain ⟨rfl, rfl⟩ := h7
    exact main es es' h5 h2 (Or.inr ⟨_, _, h6, h4⟩)

theorem lenMap_sound {c : Call} (hc : c.callee = .builtin .len) {t kt et : TypeId} {x : Operand} (ht : c.argTypes.toList = [t]) (hx : c.args.toList = [x]) (hu : P.underlying t = some (.map kt et)) {y : COpd} (hy : opd C x = some y) : RSound P C (.call c) (rLenMap y) := by
  intro KR S ρ e a w v o h H K n hs hg hR ho hrel hsub hf
  rw [call_operands hc] at hR
  have hargs := toList_one hx
  have htys := toList_one ht
  have hr := opd_rel hs hg hR (by rw [hargs]; simp) hy
  have go : ∀ v', (Builtin.len_ #[t] o.type #[a.eval x]).run P w = .ok v' w → Yields P (execOp a.eval o) w v' := by
    intro v' h
    refine .now ?_
    rw [exec_builtin ho hc, hargs, htys]
    simp [builtin, h]
  simp only [rLenMap] at hf
  generalize ev e y = cv at hf hr
  cases cv <;> simp only [lenMap, reduceCtorEq, Option.some.injEq] at hf
  case nilmap =>
    subst hf
    refine ⟨.int .i64 0, go _ ?_, .int _ _⟩
    simp [Builtin.len_, run_underlying hu, hr.nilmap_inv, goInt]
  case map b =>
    obtain ⟨es, cl, h1, h2⟩ := asMapO_some hf
    obtain ⟨r, mm, es', h3, h4, h5⟩ := hrel.map (hsub _ _ h1)
    obtain ⟨r', mm', h6, h7⟩ := hr.map_inv
    rw [h3] at h7
    simp only [Option.some.injEq, Prod.mk.injEq] at h7
    obtain ⟨rfl, rfl⟩ := h7
    simp only [Option.some.injEq] at h2
    subst h2
    refine ⟨.int .i64 es'.size, go _ ?_, ?_⟩
    · simp [Builtin.len_, run_underlying hu, h6, goInt, run_getObj_map h4]
    · have := h5.len
      rw [lenL_eq, this]
      simp
      exact .int _ _

end
end Go.Cm

/-
  The C machine, part M: bytes of memory as text, the entry of an iterator, new blocks.
-/
namespace Go.Cm

section
variable {P : Program} {C : Cx}

theorem byteL_cons {v : CV} {vs : List CV} {l : List Nat} (h : byteL (v :: vs) = some l) : ∃ n r, v = .int .u8 (.ofNat n) ∧ n < 256 ∧ byteL vs = some r ∧ l = n :: r := by
  obtain ⟨k, i, rfl, h1⟩ := asInt_some.1 (show byteL.byte1 v (byteL vs) = some l from h)
  obtain ⟨hk, h2⟩ := cnd_some.1 h1
  rw [kindEq_eq, decide_eq_true_eq] at hk
  subst hk
  cases i with
  | negSucc i => cases h2
  | ofNat n =>
    obtain ⟨h3, h4⟩ := cnd_some.1 (show cnd (Nat.blt n 256) (Option.rec (motive := fun _ => Option (List Nat)) none (fun r => some (n :: r)) (byteL vs)) none = some l from h2)
    rw [nat_blt_eq, decide_eq_true_eq] at h3
    obtain ⟨r, h5, h6⟩ := rec_some.1 h4
    simp only [Option.some.injEq] at h6
    exact ⟨n, r, rfl, h3, h5, h6.symm⟩

theorem byteL_rel {ρ : Ren} : ∀ {vs : List CV} {us : List Value} {l : List Nat}, LRel ρ vs us → byteL vs = some l → us = (l.map fun n => (Int.ofNat n)).map (Value.int .u8) ∧ ∀ n ∈ l, n < 256
  | [], us, l, hr, h => by
    have : some [] = some l := h
    simp only [Option.some.injEq] at this
    subst this
    exact ⟨by rw [hr.nil_left]; rfl, by simp⟩
  | v :: vs, us, l, hr, h => by
    obtain ⟨n, r, rfl, hn, h1, rfl⟩ := byteL_cons h
    obtain ⟨u, us, rfl, hu, hr⟩ := hr.cons_left
    obtain ⟨e, hl⟩ := byteL_rel hr h1
    refine ⟨by rw [hu.int_inv, e]; rfl, fun m hm => ?_⟩
    rcases List.mem_cons.1 hm with rfl | hm
    · exact hn
    · exact hl m hm

theorem fold_bytes : ∀ (l : List Nat) (s : ByteArray), (∀ n ∈ l, n < 256) →
    ((l.map fun n => (Int.ofNat n)).foldl (fun (r : ByteArray) (n : Int) => r.push (UInt8.ofNat n.toNat)) s).data.toList.map (·.toNat) = s.data.toList.map (·.toNat) ++ l
  | [], s, _ => by simp
  | n :: l, s, h => by
    simp only [List.map_cons, List.foldl_cons]
    rw [fold_bytes l _ fun m hm => h m (by simp [hm])]
    have hn := h n (by simp)
    simp [ByteArray.push, Nat.mod_eq_of_lt hn]

theorem bytesStr_sound {s t el : TypeId} {x : Operand} {y : COpd} (hs' : P.underlying s = some (.slice el)) (ht : P.underlying t = some .string) (he : P.underlying el = some (.int .u8)) (hx : opd C x = some y) : RSound P C (.convert s t x) (rBytesStr y) := by
  intro KR S ρ e a w v o h H K n hs hg hR ho hrel hsub hf
  have hr := opd_rel hs hg hR (by simp [Op.operands]) hx
  have fin : ∀ X, (Conv.bytesToString (a.eval x)).run P w = .ok X w → Yields P (execOp a.eval o) w X := by
    intro X hX
    refine .now ?_
    unfold execOp
    rw [ho]
    simp only [convert, Sem.run_bind, run_underlying hs', run_underlying ht, run_underlying he, Result.andThen_ok]
    have : ∀ u, (Conv.bytesToString u).run P w = .ok X w → ∃ b n c, u = .slice b n c := by
      intro u hu
      cases u <;> first | exact ⟨_, _, _, rfl⟩ | (unfold Conv.bytesToString at hu; cases hu)
    obtain ⟨b, n, c, e⟩ := this _ hX
    rw [e] at hX ⊢
    simp only [Sem.run_bind, run_underlying he, Result.andThen_ok, hX]
    rfl
  simp only [rBytesStr] at hf
  generalize ev e y = cv at hf hr
  cases cv <;> simp only [bytesStr, reduceCtorEq, Option.some.injEq] at hf
  case nilslice =>
    subst hf
    refine ⟨.string .empty, fin _ (by rw [hr.nilslice_inv]; rfl), VRel.str (ρ := ρ) .empty⟩
  case emptysl =>
    subst hf
    obtain ⟨b, c, e1⟩ := hr.emptysl_inv
    refine ⟨.string .empty, fin _ ?_, VRel.str (ρ := ρ) .empty⟩
    rw [e1]
    rw [run_bytesToString w b 0 c [] (by rfl)]
    rfl
  case slice b q len cap ex =>
    obtain ⟨vs, el', fz, e2, f2⟩ := asCells_some hf
    obtain ⟨f3, f4⟩ := cnd_some.1 f2
    rw [lenGe_eq, decide_eq_true_eq] at f3
    simp only [Option.map_eq_some_iff] at f4
    obtain ⟨l, hl, rfl⟩ := f4
    obtain ⟨r, m, c', e3, hb, _⟩ := hr.slice_inv
    obtain ⟨r', m', cs, fz', h1, h2, h3, h4, h5, _⟩ := hrel.cells (hsub _ _ e2)
    rw [hb] at h1
    simp only [Option.some.injEq, Prod.mk.injEq] at h1
    obtain ⟨rfl, rfl⟩ := h1
    rw [takeL_eq, dropL_eq] at hl
    have hsubl := (h5.drop q).take len
    rw [List.drop_take, List.take_take, Nat.min_eq_left (by omega)] at hsubl
    obtain ⟨g1, g2⟩ := byteL_rel hsubl hl
    refine ⟨.string ((l.map fun n => (Int.ofNat n)).foldl (fun (r : ByteArray) (n : Int) => r.push (UInt8.ofNat n.toNat)) .empty), fin _ ?_, ?_⟩
    · rw [e3]
      exact run_bytesToString w _ len c' _ (by rw [run_cells h2 (by omega), g1])
    · have := VRel.str (ρ := ρ) ((l.map fun n => (Int.ofNat n)).foldl (fun (r : ByteArray) (n : Int) => r.push (UInt8.ofNat n.toNat)) .empty)
      rw [fold_bytes l _ g2] at this
      simpa using this

/-! The entry that an iterator stands at. -/

theorem Rel.iter {KR : KRelT} {ρ : Ren} {H : Nat → Option MObj} {K : Nat → Option LObj} {n : Nat} {w : World} (h : Rel KR ρ H K n w) {b : Nat} {mp : Option Nat} {s : Nat} {seen : List Nat} {l : Nat} (hb : H b = some (.mapIter mp s seen l)) :
    ∃ r m mp', ρ b = some (r, m) ∧ w.heap[r]? = some (.mapIter mp' s seen.toArray l) ∧ ((mp = none ∧ mp' = none) ∨ ∃ b' r' m', mp = some b' ∧ mp' = some r' ∧ ρ b' = some (r', m')) := by
  obtain ⟨r, m, x, h1, h2, h3⟩ := h.data b _ hb
  cases mp with
  | none =>
    cases x <;> first | exact h3.elim | skip
    rename_i mp' s' seen' l'
    cases mp' with
    | some _ => exact h3.elim
    | none =>
      obtain ⟨rfl, rfl, rfl⟩ := h3
      exact ⟨r, m, none, h1, by simpa using h2, Or.inl ⟨rfl, rfl⟩⟩
  | some b' =>
    cases x <;> first | exact h3.elim | skip
    rename_i mp' s' seen' l'
    cases mp' with
    | none => exact h3.elim
    | some r' =>
      obtain ⟨⟨m', hm⟩, rfl, rfl, rfl⟩ := h3
      exact ⟨r, m, some r', h1, by simpa using h2, Or.inr ⟨b', r', m', rfl, rfl, hm⟩⟩

theorem findBorn_rel {ρ : Ren} {s : Nat} : ∀ {es : List (CV × CV × Nat)} {es' : List MapEntry} {p : CV × CV}, EsRel ρ es es' → findBorn s es = some p → ∃ e', es'.find? (·.born == s) = some e' ∧ VRel ρ p.1 e'.key ∧ VRel ρ p.2 e'.val
  | [], _, _, _, h => by cases h
  | _ :: _, [], _, h, _ => h.elim
  | e :: es, e' :: es', p, h, hf => by
    have h0 : cnd (Nat.beq e.2.2 s) (some (e.1, e.2.1)) (findBorn s es) = some p := hf
    rw [nat_beq_eq] at h0
    have hb := h.1.2.2
    by_cases hq : e.2.2 = s
    · simp only [hq, decide_true, cnd_true, Option.some.injEq] at h0
      subst h0
      exact ⟨e', by simp [List.find?, ← hb, hq], h.1.1, h.1.2.1⟩
    · simp only [hq, decide_false, cnd_false] at h0
      obtain ⟨x, h1, h2⟩ := findBorn_rel h.2 h0
      refine ⟨x, ?_, h2⟩
      have : (e'.born == s) = false := by rw [← hb]; simpa using hq
      simp [List.find?, this, h1]

theorem entry_sound {x : Operand} {y : COpd} (hx : opd C x = some y) : RSound P C (.entry x) (rEntry y) := by
  intro KR S ρ e a w v o h H K n hs hg hR ho hrel hsub hf
  have hr := opd_rel hs hg hR (by simp [Op.operands]) hx
  simp only [rEntry] at hf
  generalize ev e y = cv at hf hr
  unfold entryCV at hf
  split at hf
  · rename_i b
    split at hf
    · rename_i mp since seen last hb
      split at hf
      · rename_i s hls
        obtain ⟨es, cl, h1, h2⟩ := asMapO_some hf
        obtain ⟨h3, h4⟩ := cnd_some.1 h2
        rw [nat_beq_eq, decide_eq_true_eq] at h3
        subst h3
        simp only [Option.map_eq_some_iff] at h4
        obtain ⟨p, hp, rfl⟩ := h4
        obtain ⟨r, m, mp', g1, g2, g3⟩ := hrel.iter (hsub _ _ hb)
        rcases g3 with ⟨g3, _⟩ | ⟨b', r', m', g3, rfl, g4⟩
        · cases g3
        · simp only [Option.some.injEq] at g3
          subst g3
          obtain ⟨r2, m2, es', k1, k2, k3⟩ := hrel.map (hsub _ _ h1)
          rw [g4] at k1
          simp only [Option.some.injEq, Prod.mk.injEq] at k1
          obtain ⟨rfl, rfl⟩ := k1
          obtain ⟨e', q1, q2, q3⟩ := findBorn_rel k3 hp
          obtain ⟨r3, m3, q4, q5⟩ := hr.ptr_inv
          rw [g1] at q5
          simp only [Option.some.injEq, Prod.mk.injEq] at q5
          obtain ⟨rfl, rfl⟩ := q5
          refine ⟨.tuple #[e'.key, e'.val], .now ?_, VRel.tuple_iff.2 ⟨_, rfl, .cons q2 (.cons q3 (.nil _))⟩⟩
          have hbk : seen.toArray.back? = some s := by simpa using hls
          have hfd : es'.find? (·.born == s) = some e' := by rw [← Array.find?_toList]; exact q1
          unfold execOp
          rw [ho]
          simp only [Instr.entry, q4, Sem.run_bind, run_getObj_iter g2, Result.andThen_ok, hbk, run_getObj_map k2, bne_self_eq_false, Bool.false_eq_true, if_false, hfd, Sem.run_pure]
      · cases hf
    · cases hf
  · cases hf

end
end Go.Cm

/-
  The C machine, part N: new blocks.
-/
namespace Go.Cm

section
variable {P : Program} {C : Cx}

def ASound (P : Program) (C : Cx) (op : Op) (f : AFn) : Prop :=
  ∀ (S : Nat → Prop) (ρ : Ren) (e : Env) (a : Act) (w : World) (o : Oper) (ob : MObj) (mk : Nat → CV),
    SRel C S ρ e a.tmps → GRel C.ng ρ → (∀ t, .tmp t ∈ op.operands → S t) → o.op = op → f e = some (ob, mk) →
    ∃ x m v', (execOp a.eval o).run P w = .ok (.value v') { w with heap := w.heap.push x } ∧ ORel ρ m ob x ∧ ∀ ρ' b, ρ' b = some (w.heap.size, m) → VRel ρ' (mk b) v'

theorem run_newRow (t : TypeId) (cs : Array Value) (w : World) : (newRow t cs).run P w = .ok ⟨w.heap.size, 0, none⟩ { w with heap := w.heap.push (.cells cs t) } := rfl

theorem orel_cells {ρ : Ren} {vs : List CV} {c : Array Value} (el : Nat) (h : LRel ρ vs c.toList) : ORel ρ c.size (.cells vs el (0, 0)) (.cells c el (0, 0)) := by
  have hl : vs.length = c.size := by simpa using h.1
  refine ⟨rfl, rfl, by omega, ?_, Or.inr (Or.inl rfl)⟩
  rw [List.take_of_length_le (by simp [hl])]
  exact h

theorem alloc_sound (hC : CxOk P C) {t : TypeId} {i : TI} {z : List CV} (hi : C.ti t = some i) (hz : zeroCells i = some z) : ASound P C (.alloc t) (aAlloc t z) := by
  intro S ρ e a w o ob mk hs hg hR ho hf
  simp only [aAlloc, Option.some.injEq, Prod.mk.injEq] at hf
  obtain ⟨rfl, rfl⟩ := hf
  obtain ⟨c, hc, rfl, hl⟩ := zero_cells hz
  obtain ⟨zv, hzv, hzr⟩ := hC.run_zero hi hc w
  refine ⟨.cells zv.cells t, zv.cells.size, .pointer (some ⟨w.heap.size, 0, none⟩), ?_, orel_cells t (hzr ρ).cells, fun ρ' b hb => .ptr _ _ _ _ hb⟩
  unfold execOp
  rw [ho]
  simp only [Instr.alloc, Sem.run_bind, hzv, Result.andThen_ok]
  rfl

theorem box_sound {t : TypeId} {x : Operand} {y : COpd} (hx : opd C x = some y) : ASound P C (.box t x) (aBox t y) := by
  intro S ρ e a w o ob mk hs hg hR ho hf
  have hr := opd_rel hs hg hR (by simp [Op.operands]) hx
  simp only [aBox, Option.some.injEq, Prod.mk.injEq] at hf
  obtain ⟨rfl, rfl⟩ := hf
  refine ⟨.cells (a.eval x).cells t, (a.eval x).cells.size, .pointer (some ⟨w.heap.size, 0, none⟩), ?_, orel_cells t hr.cells, fun ρ' b hb => .ptr _ _ _ _ hb⟩
  unfold execOp
  rw [ho]
  rfl

theorem map_sound {t : TypeId} : ASound P C (.makeMap t none) aMap := by
  intro S ρ e a w o ob mk hs hg hR ho hf
  simp only [aMap, Option.some.injEq, Prod.mk.injEq] at hf
  obtain ⟨rfl, rfl⟩ := hf
  refine ⟨.map #[] 0, 0, .map (some w.heap.size), ?_, ⟨rfl, rfl, fun i h => by simp at h⟩, fun ρ' b hb => .map _ _ _ hb⟩
  unfold execOp
  rw [ho]
  rfl

theorem copies_rel {ρ : Ren} {z : List CV} {zs : List Value} (h : LRel ρ z zs) (s : Nat) (hs : z.length = s) (n : Nat) : LRel ρ (copies z n) ((List.range (n * s)).map fun i => zs[i % s]!) := by
  have hl : zs.length = s := by rw [← h.1, hs]
  induction n with
  | zero => simp; exact .nil ρ
  | succ n ih =>
    have e : copies z (n + 1) = z ++ copies z n := by
      show appL z (copies z n) = _
      rw [appL_eq]
    have e2 : (List.range ((n + 1) * s)).map (fun i => zs[i % s]!) = zs ++ (List.range (n * s)).map fun i => zs[i % s]! := by
      rw [Nat.succ_mul, Nat.add_comm, List.range_add, List.map_append, List.map_map]
      congr 1
      · apply List.ext_getElem (by simp [hl])
        intro i h1 h2
        simp only [List.getElem_map, List.getElem_range]
        have : i < s := by simpa using h1
        rw [Nat.mod_eq_of_lt this, getElem!_pos zs i h2]
      · apply List.map_congr_left
        intro i _
        simp
    rw [e, e2]
    exact h.append ih

theorem copies_arr {ρ : Ren} {z : List CV} {zs : Array Value} (h : LRel ρ z zs.toList) (n : Nat) : LRel ρ (copies z n) ((Array.range (n * zs.size)).map (zs[· % zs.size]!)).toList := by
  have := copies_rel h zs.size (by simpa using h.1) n
  rw [Array.toList_map, Array.toList_range]
  have e : (fun x => zs[x % zs.size]!) = fun x => zs.toList[x % zs.size]! := by
    funext x
    simp [getElem!_def]
  rw [e]
  exact this

theorem sliceOf_some {t : TypeId} {el n by' : Nat} {z : List CV} (h : sliceOf C t = some (el, n, by', z)) : ∃ i ei, C.ti t = some i ∧ i.under = .slice el ∧ C.ti el = some ei ∧ zeroCells ei = some z ∧ ei.size = n ∧ 0 < n ∧ ei.bytes = by' := by
  unfold sliceOf at h
  cases hi : C.ti t with
  | none => simp [hi] at h
  | some i =>
    simp only [hi] at h
    cases hu : i.under <;> simp only [hu, reduceCtorEq] at h
    rename_i el'
    cases he : C.ti el' with
    | none => simp [he] at h
    | some ei =>
      simp only [he] at h
      split at h
      · rename_i z' k h1 h2
        simp only [Option.some.injEq, Prod.mk.injEq] at h
        obtain ⟨rfl, rfl, rfl, rfl⟩ := h
        exact ⟨i, ei, rfl, hu, he, h1, h2, by omega, rfl⟩
      · cases h

theorem buildSlice_sound (hC : CxOk P C) {t : TypeId} {len el n by' : Nat} {z : List CV} {parts : Array (Nat × Operand)} {ps : List (Nat × Nat × COpd)} (hs : sliceOf C t = some (el, n, by', z))
    (hps : partsOf C (fun k => some (k * n, n)) parts.toList = some ps) : ASound P C (.buildSlice t len parts) (aSlice el n len z ps) := by
  intro S ρ e a w o ob mk hsr hg hR ho hf
  obtain ⟨i, ei, hi, hu, he, hz, rfl, hn, rfl⟩ := sliceOf_some hs
  obtain ⟨c, hc, rfl, hl⟩ := zero_cells hz
  obtain ⟨zv, hzv, hzr⟩ := hC.run_zero he hc w
  have hu := hu ▸ hC.under hi
  obtain ⟨f1, f2⟩ := cnd_some.1 hf
  have f1 := Nat.le_of_ble_eq_true f1
  simp only [Option.map_eq_some_iff, Prod.mk.injEq] at f2
  obtain ⟨cs, hcs, rfl, rfl⟩ := f2
  have hp := partsOf_rel hsr hg hR _ parts.toList ps (fun p hp => by
    simp only [Op.operands, List.mem_toArray, List.mem_map]
    exact ⟨p, hp, rfl⟩) hps
  have hzs : zv.cells.size = ei.size := by have := (hzr ρ).cells.1; simp at this; omega
  obtain ⟨cells', h1, h2⟩ := fill_rel _ _ _ _ _ ((Array.range (len * ei.size)).map (zv.cells[· % zv.cells.size]!)) hp (hzs ▸ copies_arr (hzr ρ).cells len) hcs
  refine ⟨.cells cells' el, cells'.size, .slice (some ⟨w.heap.size, 0, none⟩) len len, ?_, orel_cells el h2, fun ρ' b hb => .slice _ _ _ _ _ _ hb⟩
  unfold execOp
  rw [ho]
  have h1' : Instr.fill (fun i => some (i * ei.size, ei.size)) ((Array.range (len * ei.size)).map (zv.cells[· % zv.cells.size]!)) (parts.map fun (i, x) => (i, a.eval x)).toList = some cells' := by
    rw [← h1, realParts, Array.toList_map]
  have hbig : ¬ (len * ei.size > 2 ^ 24) := by omega
  simp only [Instr.buildSlice, Sem.run_bind, run_underlying hu, Result.andThen_ok, hC.run_size he, hbig, if_false]
  by_cases h0 : len * ei.size = 0
  · have hlen : len = 0 := by
      rcases Nat.mul_eq_zero.1 h0 with h | h
      · exact h
      · omega
    subst hlen
    simp only [Nat.zero_mul, if_true, Sem.run_bind, Sem.run_pure, Result.andThen_ok] at h1' ⊢
    have e1 : (Array.map (fun x => (#[] : Array Value)[x % (#[] : Array Value).size]!) (Array.range 0)) = Array.map (fun x => zv.cells[x % zv.cells.size]!) (Array.range 0) := by simp
    rw [e1, h1']
    simp only [Sem.run_bind, run_newRow, Result.andThen_ok, Sem.run_pure]
  · simp only [h0, if_false, Sem.run_bind, hzv, Result.andThen_ok, Sem.run_pure, h1', run_newRow]

theorem wrap_i64 (n : Nat) (h : n ≤ 9223372036854775807) : IntKind.i64.wrap (n : Int) = n := by
  apply wrap_in
  · simp [botOf]
  · simp [topOf]; omega

theorem run_askRoom (n : Nat) (w : World) : (askRoom n).run P w = .ok () w := by
  unfold askRoom
  split <;> rfl

theorem makeSlice_sound (hC : CxOk P C) {t : TypeId} {el n by' : Nat} {z : List CV} {l c : Operand} {l' c' : COpd} (hs : sliceOf C t = some (el, n, by', z)) (hl : opd C l = some l') (hc : opd C c = some c') :
    ASound P C (.makeSlice t l c) (aMake el by' z l' c') := by
  intro S ρ e a w o ob mk hsr hg hR ho hf
  obtain ⟨i, ei, hi, hu, he, hz, rfl, hn, rfl⟩ := sliceOf_some hs
  obtain ⟨zc, hzc, rfl, hlz⟩ := zero_cells hz
  obtain ⟨zv, hzv, hzr⟩ := hC.run_zero he hzc w
  have hu := hu ▸ hC.under hi
  obtain ⟨inf, hinf, h1, h2, _, _⟩ := hC.run_info he w
  have hrl := opd_rel hsr hg hR (by simp [Op.operands]) hl
  have hrc := opd_rel hsr hg hR (by simp [Op.operands]) hc
  obtain ⟨kl, lv, e1, f1⟩ := asIdx_some.1 hf
  obtain ⟨kc, cv, e2, f2⟩ := asIdx_some.1 f1
  obtain ⟨f3, f4⟩ := cnd_some.1 f2
  obtain ⟨f5, f6⟩ := cnd_some.1 f4
  obtain ⟨f7, f8⟩ := cnd_some.1 f6
  have f3 := Nat.le_of_ble_eq_true f3
  have f5 := Nat.le_of_ble_eq_true f5
  have f7 := Nat.le_of_ble_eq_true f7
  simp only [Option.some.injEq, Prod.mk.injEq] at f8
  obtain ⟨rfl, rfl⟩ := f8
  rw [e1] at hrl; rw [e2] at hrc
  have hzs : zv.cells.size = ei.size := by have := (hzr ρ).cells.1; simp at this; omega
  refine ⟨.cells ((Array.range (cv * ei.size)).map (zv.cells[· % zv.cells.size]!)) el, cv * ei.size, .slice (some ⟨w.heap.size, 0, none⟩) lv cv, ?_, ?_, fun ρ' b hb => .slice _ _ _ _ _ _ hb⟩
  · unfold execOp
    rw [ho]
    have w1 : IntKind.i64.wrap (Int.ofNat lv) = lv := wrap_i64 lv (by omega)
    have w2 : IntKind.i64.wrap (Int.ofNat cv) = cv := wrap_i64 cv f7
    have hl0 : (Go.asInt (a.eval l)).run P w = .ok (Int.ofNat lv) w := by rw [hrl.int_inv]; rfl
    have hc0 : (Go.asInt (a.eval c)).run P w = .ok (Int.ofNat cv) w := by rw [hrc.int_inv]; rfl
    have t1 : ¬ ((cv : Int) < 0) := by omega
    have t2 : ¬ ((inf.bytes : Int) * (cv : Int) > 2 ^ 48) := by
      rw [h2]
      have : ((ei.bytes * cv : Nat) : Int) ≤ 281474976710656 := by omega
      rw [Int.natCast_mul] at this
      omega
    have t3 : ¬ ((lv : Int) < 0) := by omega
    have t4 : ¬ ((lv : Int) > (cv : Int)) := by omega
    have e3 : (cv : Int).toNat = cv := by omega
    have e4 : (lv : Int).toNat = lv := by omega
    simp only [Instr.makeSlice, Sem.run_bind, run_underlying hu, Result.andThen_ok, hl0, hc0, hinf, w1, w2, t1, t2, t3, t4, decide_false, Bool.or_false, Bool.false_eq_true, if_false, Sem.run_pure, run_askRoom, e3, e4, hC.run_size he]
    by_cases h0 : cv * ei.size = 0
    · simp only [h0, if_true, Sem.run_bind, Sem.run_pure, Result.andThen_ok, run_newRow]
      simp only [show Array.range 0 = (#[] : Array Nat) from rfl, Array.map_empty]
    · simp only [h0, if_false, Sem.run_bind, hzv, Sem.run_pure, Result.andThen_ok, run_newRow]
  · have := orel_cells (ρ := ρ) el (c := (Array.range (cv * zv.cells.size)).map (zv.cells[· % zv.cells.size]!)) (copies_arr (hzr ρ).cells cv)
    simpa [hzs] using this

end
end Go.Cm

/-
  The C machine, part O: writing memory.
-/
namespace Go.Cm

section
variable {P : Program} {C : Cx}

theorem setRow_self {w : World} {r : Nat} {cur : Array Value} {t : TypeId} {fz : Nat × Nat} (h : w.heap[r]? = some (.cells cur t fz)) : w.setRow r cur = w := by
  obtain ⟨hlt, hv⟩ := Array.getElem?_eq_some_iff.1 h
  unfold World.setRow
  cases w with
  | mk heap tape drawn os output =>
    congr 1
    apply Array.ext
    · simp
    · intro k h1 h2
      simp only [Array.getElem_modify]
      split
      · rename_i hk; subst hk; simp at hv; simp [hv]
      · rfl

theorem run_storeCells_at (r o : Nat) (t : TypeId) (fz : Nat × Nat) : ∀ (vs : List Value) (i : Nat) (cur : Array Value) (w : World), w.heap[r]? = some (.cells cur t fz) → o + i + vs.length ≤ cur.size → (∀ v ∈ vs, v.oneCell' = true) →
    (∀ j, j < vs.length → ¬ (fz.1 ≤ o + i + j ∧ o + i + j < fz.2)) →
    (storeCells ⟨r, o, none⟩ vs i).run P w = .ok () (w.setRow r (cur.toList.take (o + i) ++ vs ++ cur.toList.drop (o + i + vs.length)).toArray)
  | [], i, cur, w, hg, hl, _, _ => by
    have : cur.toList.take (o + i) ++ [] ++ cur.toList.drop (o + i + ([] : List Value).length) = cur.toList := by simp
    rw [this, Array.toArray_toList, setRow_self hg]
    rfl
  | v :: rest, i, cur, w, hg, hl, h1, hf => by
    have hi : o + i < cur.size := by simp at hl; omega
    have hcell : w.cell? ⟨r, o + i, none⟩ = some cur[o + i] := by rw [cell_at hg]; simp [hi]
    have hfro : w.frozen? ⟨r, o + i, none⟩ = false := by
      have := hf 0 (by simp)
      obtain ⟨lo, hi'⟩ := fz
      simp [World.frozen?, hg]
      simp at this
      omega
    have hst : (store ((⟨r, o, none⟩ : Addr).add i) v).run P w = .ok () (w.setRow r (cur.setIfInBounds (o + i) v)) := by
      rw [addr_add, run_store P w _ v _ (h1 v (by simp)), hcell]
      simp [hfro, setCell_eq_setRow w r (o + i) cur t fz v hg]
    have ih := run_storeCells_at r o t fz rest (i + 1) (cur.setIfInBounds (o + i) v) (w.setRow r (cur.setIfInBounds (o + i) v)) (setRow_heap w r cur _ t _ hg) (by simp at hl ⊢; omega) (fun x hx => h1 x (by simp [hx]))
      (fun j hj => by have := hf (j + 1) (by simpa using hj); rwa [show o + i + (j + 1) = o + (i + 1) + j by omega] at this)
    simp only [storeCells, Sem.run_bind, hst, Result.andThen_ok, ih, setRow_setRow]
    congr 3
    apply List.ext_getElem?
    intro k
    simp only [Array.toList_setIfInBounds, List.getElem?_append, List.length_append, List.length_take, List.length_set, Array.length_toList, List.getElem?_take, List.getElem?_set, List.getElem?_drop, List.length_cons]
    have e1 : min (o + (i + 1)) cur.size = o + i + 1 := by omega
    have e2 : min (o + i) cur.size = o + i := by omega
    simp only [e1, e2]
    by_cases h1 : k < o + i
    · have : o + i ≠ k := by omega
      simp [h1, this, show k < o + i + 1 by omega, show k < o + i + 1 + rest.length by omega, show k < o + (i + 1) by omega]
      intro h; omega
    · by_cases h2 : k = o + i
      · subst h2
        simp [hi, show o + i < o + i + 1 + rest.length by omega]
      · have h3 : ¬ k < o + i + 1 := by omega
        by_cases h4 : k < o + i + 1 + rest.length
        · have : k - (o + i) = (k - (o + i + 1)) + 1 := by omega
          simp [h1, h3, h4, show k < o + i + (rest.length + 1) by omega, this]
        · have h5 : ¬ k < o + i + (rest.length + 1) := by omega
          have h6 : o + i ≠ o + (i + 1) + rest.length + (k - (o + i + 1 + rest.length)) := by omega
          simp [h4, h5, h6]
          congr 1
          omega

theorem oneCells_rel {ρ : Ren} : ∀ {vs : List CV} {us : List Value}, LRel ρ vs us → oneCells vs = true → ∀ u ∈ us, u.oneCell' = true
  | [], us, h, _, u, hu => by rw [h.nil_left] at hu; simp at hu
  | v :: vs, us, h, ho, u, hu => by
    obtain ⟨x, us, rfl, hx, ht⟩ := h.cons_left
    have ho' : cnd (oneCell v) (oneCells vs) false = true := ho
    have h1 : oneCell v = true := by cases hv : oneCell v <;> simp [hv, cnd] at ho' ⊢
    have h2 : oneCells vs = true := by rw [h1] at ho'; exact ho'
    rcases List.mem_cons.1 hu with rfl | hu
    · cases hx <;> first | rfl | assumption | (simp [oneCell] at h1)
    · exact oneCells_rel ht h2 u hu

theorem unfrozen_rel {m : Nat} {fz fz' : Nat × Nat} (h : FzRel m fz fz') {o n : Nat} (hu : unfrozen fz o n = true) (hn : o + n ≤ m) : ∀ j, j < n → ¬ (fz'.1 ≤ o + j ∧ o + j < fz'.2) := by
  intro j hj
  simp only [unfrozen, Bool.or_eq_true, Nat.ble_eq] at hu
  rcases h with ⟨_, h⟩ | h | ⟨h1, h2, h3⟩
  · exact h (o + j) (by omega)
  · omega
  · omega

theorem take_mid {α : Type} (A B D : List α) (N : Nat) (h : A.length + B.length ≤ N) : (A ++ B ++ D).take N = A ++ B ++ D.take (N - A.length - B.length) := by
  rw [List.take_append, List.take_of_length_le (l := A ++ B) (by simpa using h), List.length_append, Nat.sub_sub]

/-- A row written in memory. -/
theorem storeAt_rel {KR : KRelT} {ρ : Ren} {h h' : Heap} {K : Nat → Option LObj} {n : Nat} {w : World} (hrel : Rel KR ρ h.get K n w) {b o r m : Nat} {vs : List CV} {us : List Value} (hl : LRel ρ vs us) (hb : ρ b = some (r, m)) (hs : storeAt h b o vs = some h') :
    ∃ w', (storeCells ⟨r, o, none⟩ us).run P w = .ok () w' ∧ Step KR ρ h.get K n w ρ h'.get K n w' := by
  obtain ⟨cs, el, fz, e1, f1⟩ := asCells_some hs
  obtain ⟨f2, f3⟩ := cnd_some.1 f1
  obtain ⟨f4, f5⟩ := cnd_some.1 f3
  obtain ⟨f6, f7⟩ := cnd_some.1 f5
  simp only [Option.some.injEq] at f7
  subst f7
  rw [lenGe_eq, decide_eq_true_eq, lenL_eq] at f4
  rw [lenL_eq] at f6
  obtain ⟨r', m', c, fz', h1, h2, h3, h4, h5, h6⟩ := hrel.cells e1
  rw [hb] at h1
  simp only [Option.some.injEq, Prod.mk.injEq] at h1
  obtain ⟨rfl, rfl⟩ := h1
  have hul : us.length = vs.length := hl.1.symm
  have key := run_storeCells_at (P := P) r o el fz' us 0 c w h2 (by omega) (oneCells_rel hl f2) (by
    intro j hj
    have := unfrozen_rel h6 f6 (by omega) j (by omega)
    simpa using this)
  refine ⟨_, key, ?_⟩
  rw [get_set_fun]
  refine Step.write hrel e1 hb h2 (x' := .cells (c.toList.take (o + 0) ++ us ++ c.toList.drop (o + 0 + us.length)).toArray el fz') ?_ _ ?_ rfl rfl rfl
  · rw [setL_eq' _ _ _ f4]
    refine ⟨rfl, by simp; omega, by simp; omega, ?_, h6⟩
    have e2 : (cs.take o ++ vs ++ cs.drop (o + vs.length)).length = cs.length := by simp; omega
    have e3 : ((c.toList.take (o + 0) ++ us ++ c.toList.drop (o + 0 + us.length)).take cs.length) =
        (c.toList.take cs.length).take o ++ us ++ (c.toList.take cs.length).drop (o + vs.length) := by
      have l1 : (c.toList.take (o + 0)).length = o := by simp; omega
      rw [take_mid _ _ _ _ (by omega), l1, List.take_take, Nat.min_eq_left (by omega), List.drop_take, hul]
      simp only [Nat.add_zero]
      congr 2
      omega
    rw [e2]
    show LRel ρ _ (List.take cs.length (c.toList.take (o + 0) ++ us ++ c.toList.drop (o + 0 + us.length)))
    rw [e3]
    exact ((h5.take o).append hl).append (h5.drop _)
  · intro k
    by_cases hk : k = r
    · subst hk; rw [setRow_heap w k c _ el fz' h2, if_pos rfl]
    · rw [setRow_other w r k _ hk, if_neg hk]

def ESound (P : Program) (C : Cx) (op : Op) (f : EFn) : Prop :=
  ∀ (KR : KRelT), KMono KR → ∀ (S : Nat → Prop) (ρ : Ren) (e : Env) (a : Act) (w : World) (o : Oper) (h : Heap) (K : Nat → Option LObj) (n : Nat) (v : CV) (h' : Heap) (n' : Nat),
    SRel C S ρ e a.tmps → GRel C.ng ρ → (∀ t, .tmp t ∈ op.operands → S t) → o.op = op → Rel KR ρ h.get K n w → f e h n = some (v, h', n') →
    ∃ ρ' w' nx, (execOp a.eval o).run P w = .ok nx w' ∧ Step KR ρ h.get K n w ρ' h'.get K n' w' ∧ ((∃ v', nx = .value v' ∧ VRel ρ' v v') ∨ (nx = .skip ∧ v = .undef))

theorem store_sound (hC : CxOk P C) {t : TypeId} {p x : Operand} {p' x' : COpd} {i : TI} (hi : C.ti t = some i) (hp : opd C p = some p') (hx : opd C x = some x') : ESound P C (.store t p x) (eStore i.size p' x') := by
  intro KR hK S ρ e a w o h K n v h' n' hs hg hR ho hrel hf
  have hrp := opd_rel hs hg hR (by simp [Op.operands]) hp
  have hrx := opd_rel hs hg hR (by simp [Op.operands]) hx
  obtain ⟨b, q, e1, f1⟩ := asPtr_some.1 hf
  obtain ⟨f2, f3⟩ := cnd_some.1 f1
  rw [nat_beq_eq, decide_eq_true_eq, lenL_eq] at f2
  simp only [Option.map_eq_some_iff, Prod.mk.injEq] at f3
  obtain ⟨h2, hst, rfl, rfl, rfl⟩ := f3
  rw [e1] at hrp
  obtain ⟨r, m, e2, hb⟩ := hrp.ptr_inv
  obtain ⟨w', hw, hstep⟩ := storeAt_rel (P := P) hrel hrx.cells hb hst
  have hsz : (a.eval x).cells.size = i.size := by have := hrx.cells.1; simp at this; omega
  refine ⟨ρ, w', .skip, ?_, hstep, Or.inr ⟨rfl, rfl⟩⟩
  unfold execOp
  rw [ho]
  simp only [Instr.storeAt, e2, Instr.sureAddr, Sem.run_bind, Sem.run_pure, Result.andThen_ok, storeVar, hC.run_size hi, hsz, ne_eq, not_true_eq_false, if_false, hw]

end
end Go.Cm
