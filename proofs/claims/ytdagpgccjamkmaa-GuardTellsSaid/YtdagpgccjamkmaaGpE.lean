import Derived.Test.YtdagpgccjamkmaaGx0
import Derived.ChangeArms
import Derived.DataElems
import Derived.ChangeSlices
import Derived.WideShapes
/-! Out of a reading of a value: what its cells are. -/
namespace Go.Proofs.Ytdagpgccjamkmaa.G
open Go.RowKit Go.Proofs.YtdagpgccjamkmaaW.PrintWords Go.Proofs.YtdagpgccjamkmaaW.PrintLast Go.Proofs.YtdagpgccjamkmaaW.PrintMore Go.WideShapes

section
variable {H : Type} {enc : TypeId × Value → H} {P : Program}

/-- What has a reading is of this kind. -/
def ReadsAs (enc : TypeId × Value → H) (P : Program) {α : Type} (d : Kd α) (t : TypeId) : Prop :=
  ∀ {w : World} {base : Nat} {sp : Nat → Bool} {held : Bool} {fuel : Nat} {cs : List Value} {x : DataW H × List MemPlace}, DataW.trod enc P w base sp held fuel t cs = some x → ∃ a, d.K w a cs

theorem reads_bool {t : TypeId} (ht : P.underlying t = some .bool) : ReadsAs enc P Kd.bool t := by
  intro w base sp held fuel cs x h
  obtain ⟨b, rfl, _⟩ := DataW.trod_bool ht h
  exact ⟨b, rfl⟩
theorem reads_int {t : TypeId} {k : IntKind} (ht : P.underlying t = some (.int k)) : ReadsAs enc P (Kd.int k) t := by
  intro w base sp held fuel cs x h
  obtain ⟨b, rfl, _⟩ := DataW.trod_int ht h
  exact ⟨b, rfl⟩
theorem reads_string {t : TypeId} (ht : P.underlying t = some .string) : ReadsAs enc P Kd.string t := by
  intro w base sp held fuel cs x h
  obtain ⟨b, rfl, _⟩ := DataW.trod_string ht h
  exact ⟨b, rfl⟩

theorem reads_slice {α : Type} {d : Kd α} {t e : TypeId} (ht : P.underlying t = some (.slice e)) (hc : P.cellsOf e = d.sz) (hr : ReadsAs enc P d e) : ReadsAs enc P (Kd.slice e d) t := by
  intro w base sp held fuel cs x h
  rcases DataW.trod_slice ht h with ⟨rfl, _⟩ | ⟨a, len, cap, elems, rest, n, _, rfl, _, _, hl, hm, hlen, hel, _⟩
  · exact ⟨[], none, 0, rfl, Nat.le_refl _, Kd.C_nil _ _⟩
  have each : ∀ i : Fin len, ∃ p : α, ∃ c, c.length = d.sz ∧ d.K w p c ∧ ∀ j u, c[j]? = some u → w.cell? (a.add (i * d.sz + j)) = some u := by
    intro i
    have h1 := hel i.1 i.2
    rw [List.getElem?_eq_getElem (by omega), hc] at h1
    obtain ⟨c, h2, h3⟩ := Option.bind_eq_some_iff.1 h1
    obtain ⟨p, hp⟩ := hr h3
    refine ⟨p, c, d.K_len hp, hp, fun j u hj => ?_⟩
    unfold World.cells? at h2
    split at h2
    · have hjl : j < c.length := (List.getElem?_eq_some_iff.1 hj).1
      rw [d.K_len hp] at hjl
      have h4 := mapM_some_get h2 j j (by simp [hjl])
      rw [hj] at h4
      rw [← h4]
      rw [Addr.add_add]
    · cases h2
  have hx : (List.ofFn fun i => (each i).choose).length = len := by simp
  refine ⟨List.ofFn fun i => (each i).choose, some a, cap, by rw [hx], by rw [hx]; exact hl, rfl, ?_, fun _ => ⟨a, rfl, fun j p hj => ?_⟩⟩
  · rw [hx]
    have : maxLen ≤ 9223372036854775807 := by decide
    omega
  · have hj2 : j < len := by have := (List.getElem?_eq_some_iff.1 hj).1; rw [hx] at this; exact this
    have h5 := (each ⟨j, hj2⟩).choose_spec
    have : p = (each ⟨j, hj2⟩).choose := by
      rw [List.getElem?_eq_getElem (by rw [hx]; exact hj2)] at hj
      rw [← Option.some.inj hj]
      simp
    rw [this]
    exact h5

/-- A field's reading. -/
theorem reads_field {α : Type} {d : Kd α} {w : World} {base : Nat} {sp : Nat → Bool} {held : Bool} {fs : Array Field} {xs : List (DataW H × List MemPlace)} {n : Nat} {cs : List Value} (hl : xs.length = fs.size)
    (hf : ∀ (i : Nat) (f : Field), fs[i]? = some f → DataW.trod enc P w base sp held n f.type ((cs.drop f.offset).take (P.cellsOf f.type)) = xs[i]?)
    (i : Nat) {f : Field} (hi : fs[i]? = some f) {o m : Nat} (ho : f.offset = o) (hm : P.cellsOf f.type = m) (hr : ReadsAs enc P d f.type) : ∃ a, d.K w a ((cs.drop o).take m) := by
  have h := hf i f hi
  have hlt : i < fs.size := (Array.getElem?_eq_some_iff.1 hi).1
  rw [List.getElem?_eq_getElem (by omega), ho, hm] at h
  exact hr h

theorem cut_ {cs : List Value} {o : Nat} (m : Nat) : cs.drop o = (cs.drop o).take m ++ cs.drop (o + m) := by
  rw [← List.drop_drop]
  exact (List.take_append_drop m (cs.drop o)).symm
theorem cut_end {cs : List Value} {o m : Nat} (h : cs.length = o + m) : cs.drop o = (cs.drop o).take m := by
  rw [List.take_of_length_le (by simp [h])]
end

section
variable {H : Type} {enc : TypeId × Value → H}
theorem cells3 : Try.prog.cellsOf 3 = 1 := by kernel_rfl
theorem cells4 : Try.prog.cellsOf 4 = 1 := by kernel_rfl
theorem cells9 : Try.prog.cellsOf 9 = 1 := by kernel_rfl
theorem cells39 : Try.prog.cellsOf 39 = 4 := by kernel_rfl
theorem cells41 : Try.prog.cellsOf 41 = 6 := by kernel_rfl
theorem cells37 : Try.prog.cellsOf 37 = 4 := by kernel_rfl
theorem cells25 : Try.prog.cellsOf 25 = 7 := by kernel_rfl
end
end Go.Proofs.Ytdagpgccjamkmaa.G
