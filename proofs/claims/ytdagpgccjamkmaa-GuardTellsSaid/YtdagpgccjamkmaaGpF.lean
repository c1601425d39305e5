import Derived.Test.YtdagpgccjamkmaaGpE
/-! Out of a reading of a rule: what its cells are. -/
namespace Go.Proofs.Ytdagpgccjamkmaa.G
open Go.RowKit Go.Proofs.YtdagpgccjamkmaaW.PrintWords Go.Proofs.YtdagpgccjamkmaaW.PrintLast Go.Proofs.YtdagpgccjamkmaaW.PrintMore Go.WideShapes

theorem cells2 : Try.prog.cellsOf 2 = 1 := by kernel_rfl
theorem cells22 : Try.prog.cellsOf 22 = 1 := by kernel_rfl
theorem cells23 : Try.prog.cellsOf 23 = 1 := by kernel_rfl
theorem cells35 : Try.prog.cellsOf 35 = 1 := by kernel_rfl

section
variable {H : Type} {enc : TypeId × Value → H}

theorem reads39 : ReadsAs enc Try.prog k39 39 := by
  intro w base sp held fuel cs x h
  obtain ⟨xs, n, _, _, hl, hn, hf⟩ := DataW.trod_struct Try.underlying39 h
  rw [cells39] at hl
  obtain ⟨a0, h0⟩ := reads_field (d := Kd.int .i64) (o := 0) hn hf 0 rfl rfl cells3 (reads_int Try.underlying3)
  obtain ⟨a1, h1⟩ := reads_field (d := Kd.bool) (o := 1) hn hf 1 rfl rfl cells4 (reads_bool Try.underlying4)
  obtain ⟨a2, h2⟩ := reads_field (d := Kd.int .i64) (o := 2) hn hf 2 rfl rfl cells2 (reads_int Try.underlying2)
  obtain ⟨a3, h3⟩ := reads_field (d := Kd.string) (o := 3) hn hf 3 rfl rfl cells9 (reads_string Try.underlying9)
  rw [← cut_end (by omega)] at h3
  exact ⟨⟨a0, a1, a2, a3⟩, _, _, cut_ (o := 0) 1, h0, _, _, cut_ (o := 1) 1, h1, _, _, cut_ (o := 2) 1, h2, h3⟩

theorem reads41 : ReadsAs enc Try.prog k41 41 := by
  intro w base sp held fuel cs x h
  obtain ⟨xs, n, _, _, hl, hn, hf⟩ := DataW.trod_struct Try.underlying41 h
  rw [cells41] at hl
  obtain ⟨a0, h0⟩ := reads_field (d := Kd.string) (o := 0) hn hf 0 rfl rfl cells9 (reads_string Try.underlying9)
  obtain ⟨a1, h1⟩ := reads_field (d := Kd.bool) (o := 1) hn hf 1 rfl rfl cells4 (reads_bool Try.underlying4)
  obtain ⟨a2, h2⟩ := reads_field (d := k39) (o := 2) hn hf 2 rfl rfl cells39 reads39
  rw [← cut_end (by omega)] at h2
  exact ⟨⟨a0, a1, a2⟩, _, _, cut_ (o := 0) 1, h0, _, _, cut_ (o := 1) 1, h1, h2⟩

theorem reads37 : ReadsAs enc Try.prog k37 37 := by
  intro w base sp held fuel cs x h
  obtain ⟨xs, n, _, _, hl, hn, hf⟩ := DataW.trod_struct Try.underlying37 h
  rw [cells37] at hl
  obtain ⟨a0, h0⟩ := reads_field (d := Kd.bool) (o := 0) hn hf 0 rfl rfl cells4 (reads_bool Try.underlying4)
  obtain ⟨a1, h1⟩ := reads_field (d := Kd.string) (o := 1) hn hf 1 rfl rfl cells9 (reads_string Try.underlying9)
  obtain ⟨a2, h2⟩ := reads_field (d := Kd.slice 41 k41) (o := 2) hn hf 2 rfl rfl cells35 (reads_slice Try.underlying35 cells41 reads41)
  obtain ⟨a3, h3⟩ := reads_field (d := Kd.int .i64) (o := 3) hn hf 3 rfl rfl cells3 (reads_int Try.underlying3)
  rw [← cut_end (by omega)] at h3
  exact ⟨⟨a0, a1, a2, a3⟩, _, _, cut_ (o := 0) 1, h0, _, _, cut_ (o := 1) 1, h1, _, _, cut_ (o := 2) 1, h2, h3⟩

/-- A rule that has a reading: its cells, and what its rows hold. -/
theorem open_rule {w : World} {base : Nat} {sp : Nat → Bool} {held : Bool} {fuel : Nat} {cs : List Value} {x : DataW H × List MemPlace} (h : DataW.trod enc Try.prog w base sp held fuel 25 cs = some x) :
    ∃ (a0 : Int) (a1 : ByteArray) (A2 : Option Addr) (c2 : Nat) (l2 : List ByteArray) (a3 : Int) (a4 : ByteArray) (a5 : Int) (A6 : Option Addr) (c6 : Nat) (l6 : List S37),
      cs = [.int .i64 a0, .string a1, .slice A2 l2.length c2, .int .i64 a3, .string a4, .int .i64 a5, .slice A6 l6.length c6] ∧
      Kd.C Kd.string w A2 l2.length l2 ∧ l2.length ≤ c2 ∧ Kd.C k37 w A6 l6.length l6 ∧ l6.length ≤ c6 := by
  obtain ⟨xs, n, _, _, hl, hn, hf⟩ := DataW.trod_struct Try.underlying25 h
  rw [cells25] at hl
  obtain ⟨a0, h0⟩ := reads_field (d := Kd.int .i64) (o := 0) hn hf 0 rfl rfl cells3 (reads_int Try.underlying3)
  obtain ⟨a1, h1⟩ := reads_field (d := Kd.string) (o := 1) hn hf 1 rfl rfl cells9 (reads_string Try.underlying9)
  obtain ⟨l2, h2⟩ := reads_field (d := Kd.slice 9 Kd.string) (o := 2) hn hf 2 rfl rfl cells22 (reads_slice Try.underlying22 cells9 (reads_string Try.underlying9))
  obtain ⟨a3, h3⟩ := reads_field (d := Kd.int .i64) (o := 3) hn hf 3 rfl rfl cells3 (reads_int Try.underlying3)
  obtain ⟨a4, h4⟩ := reads_field (d := Kd.string) (o := 4) hn hf 4 rfl rfl cells9 (reads_string Try.underlying9)
  obtain ⟨a5, h5⟩ := reads_field (d := Kd.int .i64) (o := 5) hn hf 5 rfl rfl cells2 (reads_int Try.underlying2)
  obtain ⟨l6, h6⟩ := reads_field (d := Kd.slice 37 k37) (o := 6) hn hf 6 rfl rfl cells23 (reads_slice Try.underlying23 cells37 reads37)
  rw [← cut_end (by omega)] at h6
  obtain ⟨A2, c2, e2, g2, r2⟩ := h2
  obtain ⟨A6, c6, e6, g6, r6⟩ := h6
  refine ⟨a0, a1, A2, c2, l2, a3, a4, a5, A6, c6, l6, ?_, r2, g2, r6, g6⟩
  have e : cs = cs.drop 0 := rfl
  rw [e, cut_ (o := 0) 1, cut_ (o := 0 + 1) 1, cut_ (o := 0 + 1 + 1) 1, cut_ (o := 0 + 1 + 1 + 1) 1, cut_ (o := 0 + 1 + 1 + 1 + 1) 1, cut_ (o := 0 + 1 + 1 + 1 + 1 + 1) 1]
  have h0 : (cs.drop 0).take 1 = [.int .i64 a0] := h0
  have h1 : (cs.drop (0 + 1)).take 1 = [.string a1] := h1
  have h2 : (cs.drop (0 + 1 + 1)).take 1 = [.slice A2 l2.length c2] := e2
  have h3 : (cs.drop (0 + 1 + 1 + 1)).take 1 = [.int .i64 a3] := h3
  have h4 : (cs.drop (0 + 1 + 1 + 1 + 1)).take 1 = [.string a4] := h4
  have h5 : (cs.drop (0 + 1 + 1 + 1 + 1 + 1)).take 1 = [.int .i64 a5] := h5
  have h6 : cs.drop (0 + 1 + 1 + 1 + 1 + 1 + 1) = [.slice A6 l6.length c6] := e6
  rw [h0, h1, h2, h3, h4, h5, h6]
  rfl
end
end Go.Proofs.Ytdagpgccjamkmaa.G
