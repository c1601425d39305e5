import Derived.Test.YtdagpgccjamkmaaGx0
import Derived.Test.YtdagpgccjamkmaaGx51
import Derived.Test.YtdagpgccjamkmaaGx52
namespace Go.Proofs.Ytdagpgccjamkmaa.G
open Go.RowKit Go.Proofs.YtdagpgccjamkmaaW.PrintWords Go.Proofs.YtdagpgccjamkmaaW.PrintLast Go.Proofs.YtdagpgccjamkmaaW.PrintMore
attribute [local go_sem] max2_int min2_int max_two min_two max_three min_three max_four min_four   -- for this text's walks alone
set_option linter.unusedVariables false
set_option linter.unusedSimpArgs false

/-! ### verdererref15_Bound: function 12 -/
mutual
def verdererref15_Bound.l0 : Nat → List ByteArray → Int → Int → ByteArray → List ByteArray → Int → ByteArray → Int → List (S37) → Option (List ByteArray)
  | 0, _, _, _, _, _, _, _, _, _ => none
  | k + 1, x3, x4, x260000, x260001, x260002, x260003, x260004, x260005, x260006 => if x4 < (x260006.length : Int) then (verdererref15_Bound.l1 k x3 x4 0 x260000 x260001 x260002 x260003 x260004 x260005 x260006) else (some x3)
def verdererref15_Bound.l1 : Nat → List ByteArray → Int → Int → Int → ByteArray → List ByteArray → Int → ByteArray → Int → List (S37) → Option (List ByteArray)
  | 0, _, _, _, _, _, _, _, _, _, _ => none
  | k + 1, x3, x4, x5, x260000, x260001, x260002, x260003, x260004, x260005, x260006 => if 0 ≤ x4 then (if x4 < (x260006.length : Int) then (if x5 < (((rd_T37 x260006 x4).f2).length : Int) then ((verdererref15_atom.f ((rd_T37 x260006 x4).f0) ((rd_T37 x260006 x4).f1) ((rd_T37 x260006 x4).f2) ((rd_T37 x260006 x4).f3)).bind fun t262 => (verdererref15_Bound.j2 k x3 x4 x5 t262 x260000 x260001 x260002 x260003 x260004 x260005 x260006)) else (verdererref15_Bound.j2 k x3 x4 x5 false x260000 x260001 x260002 x260003 x260004 x260005 x260006)) else (none)) else (none)
def verdererref15_Bound.j2 : Nat → List ByteArray → Int → Int → Bool → Int → ByteArray → List ByteArray → Int → ByteArray → Int → List (S37) → Option (List ByteArray)
  | 0, _, _, _, _, _, _, _, _, _, _, _ => none
  | k + 1, x3, x4, x5, x30, x260000, x260001, x260002, x260003, x260004, x260005, x260006 => if x30 = true then (if 0 ≤ x4 then (if x4 < (x260006.length : Int) then (if 0 ≤ x5 then (if x5 < (((rd_T37 x260006 x4).f2).length : Int) then (if ((rd_T41 ((rd_T37 x260006 x4).f2) x5).f1 = true) then (verdererref15_Bound.l1 k x3 x4 (wrap64 (x5 + 1)) x260000 x260001 x260002 x260003 x260004 x260005 x260006) else (if ((rd_T41 ((rd_T37 x260006 x4).f2) x5).f0).toList = ([] : List UInt8) then (verdererref15_Bound.l1 k x3 x4 (wrap64 (x5 + 1)) x260000 x260001 x260002 x260003 x260004 x260005 x260006) else ((verdererref15_has.f k x3 ((rd_T41 ((rd_T37 x260006 x4).f2) x5).f0)).bind fun t266 => (if t266 = true then (verdererref15_Bound.l1 k x3 x4 (wrap64 (x5 + 1)) x260000 x260001 x260002 x260003 x260004 x260005 x260006) else (if x3.length < 8796093022208 then (verdererref15_Bound.l1 k (x3 ++ [(rd_T41 ((rd_T37 x260006 x4).f2) x5).f0]) x4 (wrap64 (x5 + 1)) x260000 x260001 x260002 x260003 x260004 x260005 x260006) else (none)))))) else (none)) else (none)) else (none)) else (none)) else (verdererref15_Bound.l0 k x3 (wrap64 (x4 + 1)) x260000 x260001 x260002 x260003 x260004 x260005 x260006)
end
def verdererref15_Bound.f (k : Nat) (a0_0 : Int) (a0_1 : ByteArray) (l0_2 : List ByteArray) (a0_3 : Int) (a0_4 : ByteArray) (a0_5 : Int) (l0_6 : List (S37)) : Option (List ByteArray) := verdererref15_Bound.l0 k ([] : List ByteArray) 0 a0_0 a0_1 l0_2 a0_3 a0_4 a0_5 l0_6
set_option maxHeartbeats 8000000 in
set_option maxRecDepth 100000 in
theorem verdererref15_Bound.calls (k : Nat) (a0_0 : Int) (a0_1 : ByteArray) (A0_2 : Option Addr) (c0_2 : Nat) (l0_2 : List ByteArray) (a0_3 : Int) (a0_4 : ByteArray) (a0_5 : Int) (A0_6 : Option Addr) (c0_6 : Nat) (l0_6 : List (S37)) (r : List ByteArray) (w : World) (hr0_2 : Kd.C Kd.string w A0_2 l0_2.length l0_2) (hc0_2 : l0_2.length ≤ c0_2) (hr0_6 : Kd.C k37 w A0_6 l0_6.length l0_6) (hc0_6 : l0_6.length ≤ c0_6) (h : verdererref15_Bound.f k a0_0 a0_1 l0_2 a0_3 a0_4 a0_5 l0_6 = some r) :
    Calls Try.prog 12 #[.agg #[.int .i64 a0_0, .string a0_1, .slice A0_2 l0_2.length c0_2, .int .i64 a0_3, .string a0_4, .int .i64 a0_5, .slice A0_6 l0_6.length c0_6]] w fun e w' => ∃ v0_ : Value, e = .returned (v0_) ∧ Kd.R Kd.string 9 w' w.heap.size (fun _ => True) v0_ r ∧ Below w.heap.size w w' := by
  have hu25 := Try.underlying25
  have hu37 := Try.underlying37
  have hu41 := Try.underlying41
  have HR0_2 := Aside0.mk hr0_2
  have HC0_2 := Aside0.mk hc0_2
  clear hr0_2 hc0_2
  have HR0_6 := Aside0.mk hr0_6
  have HC0_6 := Aside0.mk hc0_6
  clear hr0_6 hc0_6
  have HB := Aside0.mk (Below.refl w.heap.size w)
  have H : (verdererref15_Bound.l0 k ([] : List ByteArray) 0 a0_0 a0_1 l0_2 a0_3 a0_4 a0_5 l0_6) = some r := h
  clear h
  have H' := Aside0.mk H
  clear H
  go_enter Try.func12, Try.ntmps12
  go_wp2_with (first | ((with_reducible refine gate_dst (N := 1) rfl ?_); refine box_event ?hg (N := 1) ?hd (cs := #[.int .i64 a0_0, .string a0_1, .slice A0_2 l0_2.length c0_2, .int .i64 a0_3, .string a0_4, .int .i64 a0_5, .slice A0_6 l0_6.length c0_6]) (t := 25) ?hr ?_; (case hd => rfl); (case hg => rfl); (case hr => first | (go_simp; done) | (go_simp; rfl)); intro gb259 hg w2 hbox hb; have n0_ := Aside0.mk (below_step (by repeat (first | (with_reducible first | exact HB.out | apply below_alloc | apply pw_below_drewN | apply below_drew1) | exact HB.out)) hb); have n1_ := Aside0.mk (hbox); have n2_ := Aside0.mk ((by rw [hg]; exact (below_size (by repeat (first | (with_reducible first | exact HB.out | apply below_alloc | apply pw_below_drewN | apply below_drew1) | exact HB.out))) : w.heap.size ≤ gb259)); have n3_ := Aside0.mk ((by rw [hg]; exact (below_size (by repeat (first | (with_reducible first | exact HB.out | apply below_alloc | apply pw_below_drewN | apply below_drew1) | exact HB.out))) : w.heap.size ≤ gb259)); clear HB; have HB := n0_; have BK259 := n1_; have GW259 := n2_; have GE259 := n3_; clear n0_ n1_ n2_ n3_; clear hb hbox hg))
  go_loopg [3, 4] k (fun kq v3 v4 w' => ∃ (x3_1 : List ByteArray) (x4_1 : Int), v4 = .int .i64 x4_1 ∧ Aside0 (verdererref15_Bound.l0 kq x3_1 x4_1 a0_0 a0_1 l0_2 a0_3 a0_4 a0_5 l0_6 = some r) ∧ Aside0 (kq ≤ k) ∧ Aside0 (Kd.R Kd.string 9 w' w.heap.size (fun _ => True) v3 x3_1) ∧ Aside0 (w'.heap[gb259]? = some (.cells #[.int .i64 a0_0, .string a0_1, (.slice A0_2 l0_2.length c0_2), .int .i64 a0_3, .string a0_4, .int .i64 a0_5, (.slice A0_6 l0_6.length c0_6)] 25 (0, 0))) ∧ Aside0 (Below w.heap.size w w'))
  case atStart => exact ⟨(([] : List ByteArray)), (0), (by first | rfl | (simp; done) | (simp [*]; done)), H', ⟨Nat.le_refl _⟩, ⟨by first | exact Kd.R_nil _ _ _ _ _ | exact Kd.N_nil _ _ _ _ _ | exact Kd.V_nil _ _ _ _ _ | exact Kd.Q_nil _ _ _ _ _ | exact Kd.S_nil _ _ _ _ _⟩, ⟨by (with_reducible repeat (first | refine blk_drewN ?_ _ | refine blk_drew ?_ | refine blk_alloc ?_ _)); exact BK259.out⟩, ⟨by repeat (first | (with_reducible first | exact HB.out | apply below_alloc | apply pw_below_drewN | apply below_drew1 | refine below_set ?_ GE259.out) | exact HB.out)⟩⟩
  case round =>
    clear H'
    try clear c1
    try clear p2
    obtain ⟨x3_1, x4_1, rfl, HA, HK1, HO_3, BK259, HB⟩ := hrel
    cases gk with
    | zero => exact absurd HA.out (by simp [verdererref15_Bound.l0])
    | succ k1 =>
      have H := HA.out
      clear HA
      simp only [verdererref15_Bound.l0] at H
      by_cases c3 : x4_1 < (l0_6.length : Int)
      · rw [if_pos c3] at H
        have c3b0 : decide (x4_1 < (l0_6.length : Int)) = true := decide_eq_true c3
        clear c3
        have H' := Aside0.mk H
        clear H
        have hcz4_0 : wr.cell? ⟨gb259, 0, none⟩ = some (.int .i64 a0_0) := (blk_cell BK259.out 0).trans rfl
        have hcz4_1 : wr.cell? ⟨gb259, 1, none⟩ = some (.string a0_1) := (blk_cell BK259.out 1).trans rfl
        have hcz4_2 : wr.cell? ⟨gb259, 2, none⟩ = some (.slice A0_2 l0_2.length c0_2) := (blk_cell BK259.out 2).trans rfl
        have hcz4_3 : wr.cell? ⟨gb259, 3, none⟩ = some (.int .i64 a0_3) := (blk_cell BK259.out 3).trans rfl
        have hcz4_4 : wr.cell? ⟨gb259, 4, none⟩ = some (.string a0_4) := (blk_cell BK259.out 4).trans rfl
        have hcz4_5 : wr.cell? ⟨gb259, 5, none⟩ = some (.int .i64 a0_5) := (blk_cell BK259.out 5).trans rfl
        have hcz4_6 : wr.cell? ⟨gb259, 6, none⟩ = some (.slice A0_6 l0_6.length c0_6) := (blk_cell BK259.out 6).trans rfl
        have hfz4_0 := blk_frozen BK259.out 0
        have hfz4_1 := blk_frozen BK259.out 1
        have hfz4_2 := blk_frozen BK259.out 2
        have hfz4_3 := blk_frozen BK259.out 3
        have hfz4_4 := blk_frozen BK259.out 4
        have hfz4_5 := blk_frozen BK259.out 5
        have hfz4_6 := blk_frozen BK259.out 6
        go_wp2
        go_loopg [3, 5] k1 (fun kq v3 v5 w' => ∃ (x3_2 : List ByteArray) (x5_2 : Int), v5 = .int .i64 x5_2 ∧ Aside0 (verdererref15_Bound.l1 kq x3_2 x4_1 x5_2 a0_0 a0_1 l0_2 a0_3 a0_4 a0_5 l0_6 = some r) ∧ Aside0 (kq ≤ k1) ∧ Aside0 (Kd.R Kd.string 9 w' w.heap.size (fun _ => True) v3 x3_2) ∧ Aside0 (w'.heap[gb259]? = some (.cells #[.int .i64 a0_0, .string a0_1, (.slice A0_2 l0_2.length c0_2), .int .i64 a0_3, .string a0_4, .int .i64 a0_5, (.slice A0_6 l0_6.length c0_6)] 25 (0, 0))) ∧ Aside0 (Below w.heap.size w w'))
        case atStart => exact ⟨(x3_1), (0), (by first | rfl | (simp; done) | (simp [*]; done)), H', ⟨Nat.le_refl _⟩, ⟨by (with_reducible repeat (first | apply Kd.R_alloc | apply Kd.R_drewN | apply Kd.R_drew)); exact HO_3.out⟩, ⟨by (with_reducible repeat (first | refine blk_drewN ?_ _ | refine blk_drew ?_ | refine blk_alloc ?_ _)); exact BK259.out⟩, ⟨by repeat (first | (with_reducible first | exact HB.out | apply below_alloc | apply pw_below_drewN | apply below_drew1 | refine below_set ?_ GE259.out) | exact HB.out)⟩⟩
        case round =>
          clear H'
          try clear c1
          try clear p2
          try clear c3
          try clear c3b0
          try clear hcz4_0
          try clear hcz4_1
          try clear hcz4_2
          try clear hcz4_3
          try clear hcz4_4
          try clear hcz4_5
          try clear hcz4_6
          try clear hfz4_0
          try clear hfz4_1
          try clear hfz4_2
          try clear hfz4_3
          try clear hfz4_4
          try clear hfz4_5
          try clear hfz4_6
          try clear p2
          obtain ⟨x3_2, x5_2, rfl, HA, HK2, HO_3, BK259, HB⟩ := hrel
          cases gk with
          | zero => exact absurd HA.out (by simp [verdererref15_Bound.l1])
          | succ k2 =>
            have H := HA.out
            clear HA
            simp only [verdererref15_Bound.l1] at H
            have HC5 := Aside0.mk H
            clear H
            go_upto_region 6 with (fail)
            go_cut [30] (fun v30 wc => ∃ (kq : Nat) (x30_4 : Bool), v30 = .bool x30_4 ∧ Aside0 (verdererref15_Bound.j2 kq x3_2 x4_1 x5_2 x30_4 a0_0 a0_1 l0_2 a0_3 a0_4 a0_5 l0_6 = some r) ∧ Aside0 (kq ≤ k2) ∧ Aside0 (Kd.R Kd.string 9 wc w.heap.size (fun _ => True) u3 x3_2) ∧ Aside0 (wc.heap[gb259]? = some (.cells #[.int .i64 a0_0, .string a0_1, (.slice A0_2 l0_2.length c0_2), .int .i64 a0_3, .string a0_4, .int .i64 a0_5, (.slice A0_6 l0_6.length c0_6)] 25 (0, 0))) ∧ Aside0 (Below w.heap.size w wc))
            case first =>
              have H := HC5.out
              clear HC5
              by_cases c6 : 0 ≤ x4_1
              · rw [if_pos c6] at H
                have c6b0 : decide (0 ≤ x4_1) = true := decide_eq_true c6
                clear c6
                (first | rw [c6b0] | (simp only [i64_w, i32_w]; rw [c6b0]) | skip)
                by_cases c7 : x4_1 < (l0_6.length : Int)
                · rw [if_pos c7] at H
                  have c7b0 : decide (x4_1 < (l0_6.length : Int)) = true := decide_eq_true c7
                  clear c7
                  by_cases c8 : x5_2 < (((rd_T37 l0_6 x4_1).f2).length : Int)
                  · rw [if_pos c8] at H
                    have c8b0 : decide (x5_2 < (((rd_T37 l0_6 x4_1).f2).length : Int)) = true := decide_eq_true c8
                    clear c8
                    replace H := Option.bind_eq_some_iff.mp H
                    obtain ⟨t262, A90, H⟩ := H
                    replace H : (verdererref15_Bound.j2 k2 x3_2 x4_1 x5_2 t262 a0_0 a0_1 l0_2 a0_3 a0_4 a0_5 l0_6) = some r := H
                    have A9 := Aside0.mk A90
                    clear A90
                    have H' := Aside0.mk H
                    clear H
                    have hcz10_0 : wr.cell? ⟨gb259, 0, none⟩ = some (.int .i64 a0_0) := (blk_cell BK259.out 0).trans rfl
                    have hcz10_1 : wr.cell? ⟨gb259, 1, none⟩ = some (.string a0_1) := (blk_cell BK259.out 1).trans rfl
                    have hcz10_2 : wr.cell? ⟨gb259, 2, none⟩ = some (.slice A0_2 l0_2.length c0_2) := (blk_cell BK259.out 2).trans rfl
                    have hcz10_3 : wr.cell? ⟨gb259, 3, none⟩ = some (.int .i64 a0_3) := (blk_cell BK259.out 3).trans rfl
                    have hcz10_4 : wr.cell? ⟨gb259, 4, none⟩ = some (.string a0_4) := (blk_cell BK259.out 4).trans rfl
                    have hcz10_5 : wr.cell? ⟨gb259, 5, none⟩ = some (.int .i64 a0_5) := (blk_cell BK259.out 5).trans rfl
                    have hcz10_6 : wr.cell? ⟨gb259, 6, none⟩ = some (.slice A0_6 l0_6.length c0_6) := (blk_cell BK259.out 6).trans rfl
                    have hfz10_0 := blk_frozen BK259.out 0
                    have hfz10_1 := blk_frozen BK259.out 1
                    have hfz10_2 := blk_frozen BK259.out 2
                    have hfz10_3 := blk_frozen BK259.out 3
                    have hfz10_4 := blk_frozen BK259.out 4
                    have hfz10_5 := blk_frozen BK259.out 5
                    have hfz10_6 := blk_frozen BK259.out 6
                    have p260 : 0 ≤ (x4_1 : Int) := of_decide_eq_true (by first | (with_reducible assumption) | assumption)
                    have q260 : x4_1 < (l0_6.length : Int) := of_decide_eq_true (by first | (with_reducible assumption) | assumption)
                    obtain ⟨ad260, A260_2, c260_2, e260, hx260_0, hx260_1, hx260_2, hx260_3, hl260_2, hi260_2⟩ := at_T37 HR0_6.out x4_1 p260 q260
                    cases e260
                    replace hx260_0 := (HB.out.cell (World.block_lt_of_cell? w _ hx260_0)).trans hx260_0
                    replace hx260_1 := (HB.out.cell (World.block_lt_of_cell? w _ hx260_1)).trans hx260_1
                    replace hx260_2 := (HB.out.cell (World.block_lt_of_cell? w _ hx260_2)).trans hx260_2
                    replace hx260_3 := (HB.out.cell (World.block_lt_of_cell? w _ hx260_3)).trans hx260_3
                    have HR260_2 := Aside0.mk hi260_2
                    have HC260_2 := Aside0.mk hl260_2
                    clear hi260_2 hl260_2
                    replace p260 := eq_true p260
                    replace q260 := eq_true q260
                    have p261 : 0 ≤ (x4_1 : Int) := of_decide_eq_true (by first | (with_reducible assumption) | assumption)
                    have q261 : x4_1 < (l0_6.length : Int) := of_decide_eq_true (by first | (with_reducible assumption) | assumption)
                    obtain ⟨ad261, A261_2, c261_2, e261, hx261_0, hx261_1, hx261_2, hx261_3, hl261_2, hi261_2⟩ := at_T37 HR0_6.out x4_1 p261 q261
                    obtain rfl : ad260 = ad261 := (by injection e261)
                    replace hx261_0 := (HB.out.cell (World.block_lt_of_cell? w _ hx261_0)).trans hx261_0
                    replace hx261_1 := (HB.out.cell (World.block_lt_of_cell? w _ hx261_1)).trans hx261_1
                    replace hx261_2 := (HB.out.cell (World.block_lt_of_cell? w _ hx261_2)).trans hx261_2
                    replace hx261_3 := (HB.out.cell (World.block_lt_of_cell? w _ hx261_3)).trans hx261_3
                    have HR261_2 := Aside0.mk hi261_2
                    have HC261_2 := Aside0.mk hl261_2
                    clear hi261_2 hl261_2
                    replace p261 := eq_true p261
                    replace q261 := eq_true q261
                    have ea_ := Option.some.inj (hx260_2.symm.trans hx261_2)
                    injection ea_ with ea_ en_ ec_
                    subst ea_
                    subst ec_
                    clear en_
                    go_wp2_with (first | (go_at_call 19; (with_reducible refine (verdererref15_atom.calls ((rd_T37 l0_6 x4_1).f0) ((rd_T37 l0_6 x4_1).f1) _ _ ((rd_T37 l0_6 x4_1).f2) ((rd_T37 l0_6 x4_1).f3) t262 _ ?side1 ?side2 A9.out).mono ?_); (case side1 => repeat (first | exact (Kd.C_below HR261_2.out HB.out) | (with_reducible refine Kd.C_alloc ?_ _) | (with_reducible refine Kd.C_drewN ?_ _) | (with_reducible refine Kd.C_drew ?_))); (case side2 => exact HC261_2.out); rintro e w11 ⟨rfl, hb⟩; have n0_ := Aside0.mk (Kd.R_below (by (with_reducible repeat (first | apply Kd.R_alloc | apply Kd.R_drewN | apply Kd.R_drew)); exact HO_3.out) hb); have n1_ := Aside0.mk (blk_below (g := gb259) (o := .cells #[.int .i64 a0_0, .string a0_1, .slice A0_2 l0_2.length c0_2, .int .i64 a0_3, .string a0_4, .int .i64 a0_5, .slice (some ad260) l0_6.length c0_6] 25 (0, 0)) (by (with_reducible repeat (first | refine blk_drewN ?_ _ | refine blk_drew ?_ | refine blk_alloc ?_ _)); exact BK259.out) hb); have n2_ := Aside0.mk (below_step (by repeat (first | (with_reducible first | exact HB.out | apply below_alloc | apply pw_below_drewN | apply below_drew1 | refine below_set ?_ GE259.out) | exact HB.out)) hb); clear HO_3; clear BK259; clear HB; have HO_3 := n0_; have BK259 := n1_; have HB := n2_; clear n0_ n1_ n2_; (try clear hb); (try clear hb2); (try clear hk); (try clear hi)))
                    go_meet
                    case rel => exact ⟨_, (t262), (by first | rfl | (simp; done) | (simp [*]; done)), H', ⟨by have := HK1.out; have := HK2.out; first | omega | exact Nat.le_refl _⟩, ⟨by (with_reducible repeat (first | apply Kd.R_alloc | apply Kd.R_drewN | apply Kd.R_drew)); exact HO_3.out⟩, ⟨by (with_reducible repeat (first | refine blk_drewN ?_ _ | refine blk_drew ?_ | refine blk_alloc ?_ _)); exact BK259.out⟩, ⟨by repeat (first | (with_reducible first | exact HB.out | apply below_alloc | apply pw_below_drewN | apply below_drew1 | refine below_set ?_ GE259.out) | exact HB.out)⟩⟩
                  · rw [if_neg c8] at H
                    have c8b0 : decide (x5_2 < (((rd_T37 l0_6 x4_1).f2).length : Int)) = false := decide_eq_false c8
                    clear c8
                    have H' := Aside0.mk H
                    clear H
                    have hcz12_0 : wr.cell? ⟨gb259, 0, none⟩ = some (.int .i64 a0_0) := (blk_cell BK259.out 0).trans rfl
                    have hcz12_1 : wr.cell? ⟨gb259, 1, none⟩ = some (.string a0_1) := (blk_cell BK259.out 1).trans rfl
                    have hcz12_2 : wr.cell? ⟨gb259, 2, none⟩ = some (.slice A0_2 l0_2.length c0_2) := (blk_cell BK259.out 2).trans rfl
                    have hcz12_3 : wr.cell? ⟨gb259, 3, none⟩ = some (.int .i64 a0_3) := (blk_cell BK259.out 3).trans rfl
                    have hcz12_4 : wr.cell? ⟨gb259, 4, none⟩ = some (.string a0_4) := (blk_cell BK259.out 4).trans rfl
                    have hcz12_5 : wr.cell? ⟨gb259, 5, none⟩ = some (.int .i64 a0_5) := (blk_cell BK259.out 5).trans rfl
                    have hcz12_6 : wr.cell? ⟨gb259, 6, none⟩ = some (.slice A0_6 l0_6.length c0_6) := (blk_cell BK259.out 6).trans rfl
                    have hfz12_0 := blk_frozen BK259.out 0
                    have hfz12_1 := blk_frozen BK259.out 1
                    have hfz12_2 := blk_frozen BK259.out 2
                    have hfz12_3 := blk_frozen BK259.out 3
                    have hfz12_4 := blk_frozen BK259.out 4
                    have hfz12_5 := blk_frozen BK259.out 5
                    have hfz12_6 := blk_frozen BK259.out 6
                    have p260 : 0 ≤ (x4_1 : Int) := of_decide_eq_true (by first | (with_reducible assumption) | assumption)
                    have q260 : x4_1 < (l0_6.length : Int) := of_decide_eq_true (by first | (with_reducible assumption) | assumption)
                    obtain ⟨ad260, A260_2, c260_2, e260, hx260_0, hx260_1, hx260_2, hx260_3, hl260_2, hi260_2⟩ := at_T37 HR0_6.out x4_1 p260 q260
                    cases e260
                    replace hx260_0 := (HB.out.cell (World.block_lt_of_cell? w _ hx260_0)).trans hx260_0
                    replace hx260_1 := (HB.out.cell (World.block_lt_of_cell? w _ hx260_1)).trans hx260_1
                    replace hx260_2 := (HB.out.cell (World.block_lt_of_cell? w _ hx260_2)).trans hx260_2
                    replace hx260_3 := (HB.out.cell (World.block_lt_of_cell? w _ hx260_3)).trans hx260_3
                    have HR260_2 := Aside0.mk hi260_2
                    have HC260_2 := Aside0.mk hl260_2
                    clear hi260_2 hl260_2
                    replace p260 := eq_true p260
                    replace q260 := eq_true q260
                    go_wp2
                    go_meet
                    case rel => exact ⟨_, (false), (by first | rfl | (simp; done) | (simp [*]; done)), H', ⟨by have := HK1.out; have := HK2.out; first | omega | exact Nat.le_refl _⟩, ⟨by (with_reducible repeat (first | apply Kd.R_alloc | apply Kd.R_drewN | apply Kd.R_drew)); exact HO_3.out⟩, ⟨by (with_reducible repeat (first | refine blk_drewN ?_ _ | refine blk_drew ?_ | refine blk_alloc ?_ _)); exact BK259.out⟩, ⟨by repeat (first | (with_reducible first | exact HB.out | apply below_alloc | apply pw_below_drewN | apply below_drew1 | refine below_set ?_ GE259.out) | exact HB.out)⟩⟩
                · rw [if_neg c7] at H
                  exact absurd H (by simp)
              · rw [if_neg c6] at H
                exact absurd H (by simp)
            case rest =>
              clear HC5
              try clear c1
              try clear c2
              try clear p2
              try clear q2
              try clear hx2
              try clear c3
              try clear c3b0
              try clear c6
              try clear c6b0
              try clear c7
              try clear c7b0
              try clear c8
              try clear c8b0
              try clear c12
              try clear hcz10_0
              try clear hcz10_1
              try clear hcz10_2
              try clear hcz10_3
              try clear hcz10_4
              try clear hcz10_5
              try clear hcz10_6
              try clear hcz12_0
              try clear hcz12_1
              try clear hcz12_2
              try clear hcz12_3
              try clear hcz12_4
              try clear hcz12_5
              try clear hcz12_6
              try clear hcz4_0
              try clear hcz4_1
              try clear hcz4_2
              try clear hcz4_3
              try clear hcz4_4
              try clear hcz4_5
              try clear hcz4_6
              try clear hfz10_0
              try clear hfz10_1
              try clear hfz10_2
              try clear hfz10_3
              try clear hfz10_4
              try clear hfz10_5
              try clear hfz10_6
              try clear hfz12_0
              try clear hfz12_1
              try clear hfz12_2
              try clear hfz12_3
              try clear hfz12_4
              try clear hfz12_5
              try clear hfz12_6
              try clear hfz4_0
              try clear hfz4_1
              try clear hfz4_2
              try clear hfz4_3
              try clear hfz4_4
              try clear hfz4_5
              try clear hfz4_6
              try clear hx260_0
              try clear hx260_1
              try clear hx260_2
              try clear hx260_3
              try clear hx261_0
              try clear hx261_1
              try clear hx261_2
              try clear hx261_3
              try clear p2
              try clear p260
              try clear p261
              try clear q260
              try clear q261
              obtain ⟨kq, x30_4, rfl, HA, HJ4, HO_3, BK259, HB⟩ := hcut
              cases kq with
              | zero => exact absurd HA.out (by simp [verdererref15_Bound.j2])
              | succ kj4 =>
                have H := HA.out
                clear HA
                simp only [verdererref15_Bound.j2] at H
                by_cases c13 : x30_4 = true
                · subst c13
                  have H1 : (if 0 ≤ x4_1 then (if x4_1 < (l0_6.length : Int) then (if 0 ≤ x5_2 then (if x5_2 < (((rd_T37 l0_6 x4_1).f2).length : Int) then (if ((rd_T41 ((rd_T37 l0_6 x4_1).f2) x5_2).f1 = true) then (verdererref15_Bound.l1 kj4 x3_2 x4_1 (wrap64 (x5_2 + 1)) a0_0 a0_1 l0_2 a0_3 a0_4 a0_5 l0_6) else (if ((rd_T41 ((rd_T37 l0_6 x4_1).f2) x5_2).f0).toList = ([] : List UInt8) then (verdererref15_Bound.l1 kj4 x3_2 x4_1 (wrap64 (x5_2 + 1)) a0_0 a0_1 l0_2 a0_3 a0_4 a0_5 l0_6) else ((verdererref15_has.f kj4 x3_2 ((rd_T41 ((rd_T37 l0_6 x4_1).f2) x5_2).f0)).bind fun t266 => (if t266 = true then (verdererref15_Bound.l1 kj4 x3_2 x4_1 (wrap64 (x5_2 + 1)) a0_0 a0_1 l0_2 a0_3 a0_4 a0_5 l0_6) else (if x3_2.length < 8796093022208 then (verdererref15_Bound.l1 kj4 (x3_2 ++ [(rd_T41 ((rd_T37 l0_6 x4_1).f2) x5_2).f0]) x4_1 (wrap64 (x5_2 + 1)) a0_0 a0_1 l0_2 a0_3 a0_4 a0_5 l0_6) else (none)))))) else (none)) else (none)) else (none)) else (none)) = some r := by rw [if_pos rfl] at H; exact H
                  clear H
                  have H := H1
                  clear H1
                  by_cases c14 : 0 ≤ x4_1
                  · rw [if_pos c14] at H
                    have c14b0 : decide (0 ≤ x4_1) = true := decide_eq_true c14
                    clear c14
                    by_cases c15 : x4_1 < (l0_6.length : Int)
                    · rw [if_pos c15] at H
                      have c15b0 : decide (x4_1 < (l0_6.length : Int)) = true := decide_eq_true c15
                      clear c15
                      by_cases c16 : 0 ≤ x5_2
                      · rw [if_pos c16] at H
                        have c16b0 : decide (0 ≤ x5_2) = true := decide_eq_true c16
                        clear c16
                        by_cases c17 : x5_2 < (((rd_T37 l0_6 x4_1).f2).length : Int)
                        · rw [if_pos c17] at H
                          have c17b0 : decide (x5_2 < (((rd_T37 l0_6 x4_1).f2).length : Int)) = true := decide_eq_true c17
                          clear c17
                          obtain ⟨bq18, hbq18⟩ : ∃ b_ : Bool, b_ = ((rd_T41 ((rd_T37 l0_6 x4_1).f2) x5_2).f1) := ⟨_, rfl⟩
                          replace H : (if (bq18 = true) then (verdererref15_Bound.l1 kj4 x3_2 x4_1 (wrap64 (x5_2 + 1)) a0_0 a0_1 l0_2 a0_3 a0_4 a0_5 l0_6) else (if ((rd_T41 ((rd_T37 l0_6 x4_1).f2) x5_2).f0).toList = ([] : List UInt8) then (verdererref15_Bound.l1 kj4 x3_2 x4_1 (wrap64 (x5_2 + 1)) a0_0 a0_1 l0_2 a0_3 a0_4 a0_5 l0_6) else ((verdererref15_has.f kj4 x3_2 ((rd_T41 ((rd_T37 l0_6 x4_1).f2) x5_2).f0)).bind fun t266 => (if t266 = true then (verdererref15_Bound.l1 kj4 x3_2 x4_1 (wrap64 (x5_2 + 1)) a0_0 a0_1 l0_2 a0_3 a0_4 a0_5 l0_6) else (if x3_2.length < 8796093022208 then (verdererref15_Bound.l1 kj4 (x3_2 ++ [(rd_T41 ((rd_T37 l0_6 x4_1).f2) x5_2).f0]) x4_1 (wrap64 (x5_2 + 1)) a0_0 a0_1 l0_2 a0_3 a0_4 a0_5 l0_6) else (none)))))) = some r := by rw [← hbq18] at H; exact H
                          have Nbq18 := Aside0.mk hbq18
                          clear hbq18
                          by_cases c19 : (bq18 = true)
                          · subst c19
                            have H1 : (verdererref15_Bound.l1 kj4 x3_2 x4_1 (wrap64 (x5_2 + 1)) a0_0 a0_1 l0_2 a0_3 a0_4 a0_5 l0_6) = some r := by rw [if_pos rfl] at H; exact H
                            clear H
                            have H := H1
                            clear H1
                            have H' := Aside0.mk H
                            clear H
                            have hcz20_0 : wc.cell? ⟨gb259, 0, none⟩ = some (.int .i64 a0_0) := (blk_cell BK259.out 0).trans rfl
                            have hcz20_1 : wc.cell? ⟨gb259, 1, none⟩ = some (.string a0_1) := (blk_cell BK259.out 1).trans rfl
                            have hcz20_2 : wc.cell? ⟨gb259, 2, none⟩ = some (.slice A0_2 l0_2.length c0_2) := (blk_cell BK259.out 2).trans rfl
                            have hcz20_3 : wc.cell? ⟨gb259, 3, none⟩ = some (.int .i64 a0_3) := (blk_cell BK259.out 3).trans rfl
                            have hcz20_4 : wc.cell? ⟨gb259, 4, none⟩ = some (.string a0_4) := (blk_cell BK259.out 4).trans rfl
                            have hcz20_5 : wc.cell? ⟨gb259, 5, none⟩ = some (.int .i64 a0_5) := (blk_cell BK259.out 5).trans rfl
                            have hcz20_6 : wc.cell? ⟨gb259, 6, none⟩ = some (.slice A0_6 l0_6.length c0_6) := (blk_cell BK259.out 6).trans rfl
                            have hfz20_0 := blk_frozen BK259.out 0
                            have hfz20_1 := blk_frozen BK259.out 1
                            have hfz20_2 := blk_frozen BK259.out 2
                            have hfz20_3 := blk_frozen BK259.out 3
                            have hfz20_4 := blk_frozen BK259.out 4
                            have hfz20_5 := blk_frozen BK259.out 5
                            have hfz20_6 := blk_frozen BK259.out 6
                            have p263 : 0 ≤ (x4_1 : Int) := of_decide_eq_true (by first | (with_reducible assumption) | assumption)
                            have q263 : x4_1 < (l0_6.length : Int) := of_decide_eq_true (by first | (with_reducible assumption) | assumption)
                            obtain ⟨ad263, A263_2, c263_2, e263, hx263_0, hx263_1, hx263_2, hx263_3, hl263_2, hi263_2⟩ := at_T37 HR0_6.out x4_1 p263 q263
                            (try rw [← Nbq18.out] at hx263_0)
                            cases e263
                            replace hx263_0 := (HB.out.cell (World.block_lt_of_cell? w _ hx263_0)).trans hx263_0
                            replace hx263_1 := (HB.out.cell (World.block_lt_of_cell? w _ hx263_1)).trans hx263_1
                            replace hx263_2 := (HB.out.cell (World.block_lt_of_cell? w _ hx263_2)).trans hx263_2
                            replace hx263_3 := (HB.out.cell (World.block_lt_of_cell? w _ hx263_3)).trans hx263_3
                            have HR263_2 := Aside0.mk hi263_2
                            have HC263_2 := Aside0.mk hl263_2
                            clear hi263_2 hl263_2
                            replace p263 := eq_true p263
                            replace q263 := eq_true q263
                            have p264 : 0 ≤ (x5_2 : Int) := of_decide_eq_true (by first | (with_reducible assumption) | assumption)
                            have q264 : x5_2 < (((rd_T37 l0_6 x4_1).f2).length : Int) := of_decide_eq_true (by first | (with_reducible assumption) | assumption)
                            obtain ⟨ad264, e264, hx264_0, hx264_1, hx264_2, hx264_3, hx264_4, hx264_5⟩ := at_T41 HR263_2.out x5_2 p264 q264
                            (try rw [← Nbq18.out] at hx264_1)
                            (try rw [← Nbq18.out] at hx264_3)
                            cases e264
                            replace hx264_0 := (HB.out.cell (World.block_lt_of_cell? w _ hx264_0)).trans hx264_0
                            replace hx264_1 := (HB.out.cell (World.block_lt_of_cell? w _ hx264_1)).trans hx264_1
                            replace hx264_2 := (HB.out.cell (World.block_lt_of_cell? w _ hx264_2)).trans hx264_2
                            replace hx264_3 := (HB.out.cell (World.block_lt_of_cell? w _ hx264_3)).trans hx264_3
                            replace hx264_4 := (HB.out.cell (World.block_lt_of_cell? w _ hx264_4)).trans hx264_4
                            replace hx264_5 := (HB.out.cell (World.block_lt_of_cell? w _ hx264_5)).trans hx264_5
                            replace p264 := eq_true p264
                            replace q264 := eq_true q264
                            go_wp2_with (first | ((with_reducible refine gate_dst (N := 6) rfl ?_); refine box_event ?hg (N := 6) ?hd (cs := #[.string (⟨#[]⟩ : ByteArray), .bool false, .int .i64 0, .bool false, .int .i64 0, .string (⟨#[]⟩ : ByteArray)]) (t := 41) ?hr ?_; (case hd => rfl); (case hg => rfl); (case hr => first | (go_simp; done) | (go_simp; rfl)); intro gb265 hg w21 hbox hb; have n0_ := Aside0.mk (Kd.R_below (by (with_reducible repeat (first | apply Kd.R_alloc | apply Kd.R_drewN | apply Kd.R_drew)); exact HO_3.out) hb); have n1_ := Aside0.mk (blk_below (g := gb259) (o := .cells #[.int .i64 a0_0, .string a0_1, .slice A0_2 l0_2.length c0_2, .int .i64 a0_3, .string a0_4, .int .i64 a0_5, .slice (some ad263) l0_6.length c0_6] 25 (0, 0)) (by (with_reducible repeat (first | refine blk_drewN ?_ _ | refine blk_drew ?_ | refine blk_alloc ?_ _)); exact BK259.out) hb); have n2_ := Aside0.mk (below_step (by repeat (first | (with_reducible first | exact HB.out | apply below_alloc | apply pw_below_drewN | apply below_drew1 | refine below_set ?_ GE259.out) | exact HB.out)) hb); have n3_ := Aside0.mk (hbox); have n4_ := Aside0.mk ((by rw [hg]; exact (below_size (by repeat (first | (with_reducible first | exact HB.out | apply below_alloc | apply pw_below_drewN | apply below_drew1 | refine below_set ?_ GE259.out) | exact HB.out))) : w.heap.size ≤ gb265)); have n5_ := Aside0.mk ((by rw [hg]; exact (below_size (by repeat (first | (with_reducible first | exact HB.out | apply below_alloc | apply pw_below_drewN | apply below_drew1 | refine below_set ?_ GE259.out) | exact HB.out))) : w.heap.size ≤ gb265)); have n6_ := Aside0.mk ((by rw [hg]; exact Nat.ne_of_lt (blk_lt (g := gb259) (o := .cells #[.int .i64 a0_0, .string a0_1, .slice A0_2 l0_2.length c0_2, .int .i64 a0_3, .string a0_4, .int .i64 a0_5, .slice (some ad263) l0_6.length c0_6] 25 (0, 0)) (by (with_reducible repeat (first | refine blk_drewN ?_ _ | refine blk_drew ?_ | refine blk_alloc ?_ _)); exact BK259.out)) : gb259 ≠ gb265)); have n7_ := Aside0.mk ((by rw [hg]; exact Nat.ne_of_gt (blk_lt (g := gb259) (o := .cells #[.int .i64 a0_0, .string a0_1, .slice A0_2 l0_2.length c0_2, .int .i64 a0_3, .string a0_4, .int .i64 a0_5, .slice (some ad263) l0_6.length c0_6] 25 (0, 0)) (by (with_reducible repeat (first | refine blk_drewN ?_ _ | refine blk_drew ?_ | refine blk_alloc ?_ _)); exact BK259.out)) : gb265 ≠ gb259)); clear HO_3; clear BK259; clear HB; have HO_3 := n0_; have BK259 := n1_; have HB := n2_; have BK265 := n3_; have GW265 := n4_; have GE265 := n5_; have NB259_265 := n6_; have NB265_259 := n7_; clear n0_ n1_ n2_ n3_ n4_ n5_ n6_ n7_; clear hb hbox hg; have hnb22 := NB265_259.out; have hnc22 := NB259_265.out; have hcz23_0 : w21.cell? ⟨gb265, 0, none⟩ = some (.string (⟨#[]⟩ : ByteArray)) := (blk_cell BK265.out 0).trans rfl; have hcz23_1 : w21.cell? ⟨gb265, 1, none⟩ = some (.bool false) := (blk_cell BK265.out 1).trans rfl; have hcz23_2 : w21.cell? ⟨gb265, 2, none⟩ = some (.int .i64 0) := (blk_cell BK265.out 2).trans rfl; have hcz23_3 : w21.cell? ⟨gb265, 3, none⟩ = some (.bool false) := (blk_cell BK265.out 3).trans rfl; have hcz23_4 : w21.cell? ⟨gb265, 4, none⟩ = some (.int .i64 0) := (blk_cell BK265.out 4).trans rfl; have hcz23_5 : w21.cell? ⟨gb265, 5, none⟩ = some (.string (⟨#[]⟩ : ByteArray)) := (blk_cell BK265.out 5).trans rfl; have hfz23_0 := blk_frozen BK265.out 0; have hfz23_1 := blk_frozen BK265.out 1; have hfz23_2 := blk_frozen BK265.out 2; have hfz23_3 := blk_frozen BK265.out 3; have hfz23_4 := blk_frozen BK265.out 4; have hfz23_5 := blk_frozen BK265.out 5))
                            go_roundg kj4
                            case measure => have := HK1.out; have := HK2.out; have := HJ4.out; omega
                            case rel => exact ⟨(x3_2), (wrap64 (x5_2 + 1)), (by first | rfl | (simp; done) | (simp [*]; done)), H', ⟨by have := HK1.out; have := HK2.out; have := HJ4.out; omega⟩, ⟨by (with_reducible repeat (first | apply Kd.R_alloc | apply Kd.R_drewN | apply Kd.R_drew)); exact Kd.R_mono (Kd.R_far (p := ⟨gb265, 5, none⟩) (Kd.R_far (p := ⟨gb265, 4, none⟩) (Kd.R_far (p := ⟨gb265, 3, none⟩) (Kd.R_far (p := ⟨gb265, 2, none⟩) (Kd.R_far (p := ⟨gb265, 1, none⟩) (Kd.R_far (p := ⟨gb265, 0, none⟩) (Kd.R_types HO_3.out BK265.out (by decide)) (fun _ hk => hk.2) (.string ((rd_T41 ((rd_T37 l0_6 x4_1).f2) x5_2).f0))) (fun _ hk => hk.2) (.bool true)) (fun _ hk => hk.2) (.int .i64 ((rd_T41 ((rd_T37 l0_6 x4_1).f2) x5_2).f2.f0))) (fun _ hk => hk.2) (.bool ((rd_T41 ((rd_T37 l0_6 x4_1).f2) x5_2).f2.f1))) (fun _ hk => hk.2) (.int .i64 ((rd_T41 ((rd_T37 l0_6 x4_1).f2) x5_2).f2.f2))) (fun _ hk => hk.2) (.string ((rd_T41 ((rd_T37 l0_6 x4_1).f2) x5_2).f2.f3))) (fun _ hk => trivial)⟩, ⟨by (with_reducible repeat (first | refine blk_drewN ?_ _ | refine blk_drew ?_ | refine blk_alloc ?_ _)); refine blk_far ?_ NB259_265.out _; (with_reducible repeat (first | refine blk_drewN ?_ _ | refine blk_drew ?_ | refine blk_alloc ?_ _)); refine blk_far ?_ NB259_265.out _; (with_reducible repeat (first | refine blk_drewN ?_ _ | refine blk_drew ?_ | refine blk_alloc ?_ _)); refine blk_far ?_ NB259_265.out _; (with_reducible repeat (first | refine blk_drewN ?_ _ | refine blk_drew ?_ | refine blk_alloc ?_ _)); refine blk_far ?_ NB259_265.out _; (with_reducible repeat (first | refine blk_drewN ?_ _ | refine blk_drew ?_ | refine blk_alloc ?_ _)); refine blk_far ?_ NB259_265.out _; (with_reducible repeat (first | refine blk_drewN ?_ _ | refine blk_drew ?_ | refine blk_alloc ?_ _)); refine blk_far ?_ NB259_265.out _; (with_reducible repeat (first | refine blk_drewN ?_ _ | refine blk_drew ?_ | refine blk_alloc ?_ _)); exact BK259.out⟩, ⟨by repeat (first | (with_reducible first | exact HB.out | apply below_alloc | apply pw_below_drewN | apply below_drew1 | refine below_set ?_ GE259.out | refine below_set ?_ GE265.out) | exact HB.out)⟩⟩
                          · replace c19 := Bool.eq_false_iff.mpr c19
                            subst c19
                            have H1 : (if ((rd_T41 ((rd_T37 l0_6 x4_1).f2) x5_2).f0).toList = ([] : List UInt8) then (verdererref15_Bound.l1 kj4 x3_2 x4_1 (wrap64 (x5_2 + 1)) a0_0 a0_1 l0_2 a0_3 a0_4 a0_5 l0_6) else ((verdererref15_has.f kj4 x3_2 ((rd_T41 ((rd_T37 l0_6 x4_1).f2) x5_2).f0)).bind fun t266 => (if t266 = true then (verdererref15_Bound.l1 kj4 x3_2 x4_1 (wrap64 (x5_2 + 1)) a0_0 a0_1 l0_2 a0_3 a0_4 a0_5 l0_6) else (if x3_2.length < 8796093022208 then (verdererref15_Bound.l1 kj4 (x3_2 ++ [(rd_T41 ((rd_T37 l0_6 x4_1).f2) x5_2).f0]) x4_1 (wrap64 (x5_2 + 1)) a0_0 a0_1 l0_2 a0_3 a0_4 a0_5 l0_6) else (none))))) = some r := by rw [if_neg (show ¬ (false = true) by decide)] at H; exact H
                            clear H
                            have H := H1
                            clear H1
                            by_cases c24 : ((rd_T41 ((rd_T37 l0_6 x4_1).f2) x5_2).f0).toList = ([] : List UInt8)
                            · rw [if_pos c24] at H
                              have c24b0 : (((rd_T41 ((rd_T37 l0_6 x4_1).f2) x5_2).f0).toList == ([] : List UInt8)) = true := beq_iff_eq.mpr c24
                              have c24b1 : (((rd_T41 ((rd_T37 l0_6 x4_1).f2) x5_2).f0).toList != ([] : List UInt8)) = false := bne_eq_false_iff_eq.mpr c24
                              clear c24
                              have H' := Aside0.mk H
                              clear H
                              have hcz25_0 : wc.cell? ⟨gb259, 0, none⟩ = some (.int .i64 a0_0) := (blk_cell BK259.out 0).trans rfl
                              have hcz25_1 : wc.cell? ⟨gb259, 1, none⟩ = some (.string a0_1) := (blk_cell BK259.out 1).trans rfl
                              have hcz25_2 : wc.cell? ⟨gb259, 2, none⟩ = some (.slice A0_2 l0_2.length c0_2) := (blk_cell BK259.out 2).trans rfl
                              have hcz25_3 : wc.cell? ⟨gb259, 3, none⟩ = some (.int .i64 a0_3) := (blk_cell BK259.out 3).trans rfl
                              have hcz25_4 : wc.cell? ⟨gb259, 4, none⟩ = some (.string a0_4) := (blk_cell BK259.out 4).trans rfl
                              have hcz25_5 : wc.cell? ⟨gb259, 5, none⟩ = some (.int .i64 a0_5) := (blk_cell BK259.out 5).trans rfl
                              have hcz25_6 : wc.cell? ⟨gb259, 6, none⟩ = some (.slice A0_6 l0_6.length c0_6) := (blk_cell BK259.out 6).trans rfl
                              have hfz25_0 := blk_frozen BK259.out 0
                              have hfz25_1 := blk_frozen BK259.out 1
                              have hfz25_2 := blk_frozen BK259.out 2
                              have hfz25_3 := blk_frozen BK259.out 3
                              have hfz25_4 := blk_frozen BK259.out 4
                              have hfz25_5 := blk_frozen BK259.out 5
                              have hfz25_6 := blk_frozen BK259.out 6
                              have p263 : 0 ≤ (x4_1 : Int) := of_decide_eq_true (by first | (with_reducible assumption) | assumption)
                              have q263 : x4_1 < (l0_6.length : Int) := of_decide_eq_true (by first | (with_reducible assumption) | assumption)
                              obtain ⟨ad263, A263_2, c263_2, e263, hx263_0, hx263_1, hx263_2, hx263_3, hl263_2, hi263_2⟩ := at_T37 HR0_6.out x4_1 p263 q263
                              (try rw [← Nbq18.out] at hx263_0)
                              cases e263
                              replace hx263_0 := (HB.out.cell (World.block_lt_of_cell? w _ hx263_0)).trans hx263_0
                              replace hx263_1 := (HB.out.cell (World.block_lt_of_cell? w _ hx263_1)).trans hx263_1
                              replace hx263_2 := (HB.out.cell (World.block_lt_of_cell? w _ hx263_2)).trans hx263_2
                              replace hx263_3 := (HB.out.cell (World.block_lt_of_cell? w _ hx263_3)).trans hx263_3
                              have HR263_2 := Aside0.mk hi263_2
                              have HC263_2 := Aside0.mk hl263_2
                              clear hi263_2 hl263_2
                              replace p263 := eq_true p263
                              replace q263 := eq_true q263
                              have p264 : 0 ≤ (x5_2 : Int) := of_decide_eq_true (by first | (with_reducible assumption) | assumption)
                              have q264 : x5_2 < (((rd_T37 l0_6 x4_1).f2).length : Int) := of_decide_eq_true (by first | (with_reducible assumption) | assumption)
                              obtain ⟨ad264, e264, hx264_0, hx264_1, hx264_2, hx264_3, hx264_4, hx264_5⟩ := at_T41 HR263_2.out x5_2 p264 q264
                              (try rw [← Nbq18.out] at hx264_1)
                              (try rw [← Nbq18.out] at hx264_3)
                              cases e264
                              replace hx264_0 := (HB.out.cell (World.block_lt_of_cell? w _ hx264_0)).trans hx264_0
                              replace hx264_1 := (HB.out.cell (World.block_lt_of_cell? w _ hx264_1)).trans hx264_1
                              replace hx264_2 := (HB.out.cell (World.block_lt_of_cell? w _ hx264_2)).trans hx264_2
                              replace hx264_3 := (HB.out.cell (World.block_lt_of_cell? w _ hx264_3)).trans hx264_3
                              replace hx264_4 := (HB.out.cell (World.block_lt_of_cell? w _ hx264_4)).trans hx264_4
                              replace hx264_5 := (HB.out.cell (World.block_lt_of_cell? w _ hx264_5)).trans hx264_5
                              replace p264 := eq_true p264
                              replace q264 := eq_true q264
                              go_wp2_with (first | ((with_reducible refine gate_dst (N := 6) rfl ?_); refine box_event ?hg (N := 6) ?hd (cs := #[.string (⟨#[]⟩ : ByteArray), .bool false, .int .i64 0, .bool false, .int .i64 0, .string (⟨#[]⟩ : ByteArray)]) (t := 41) ?hr ?_; (case hd => rfl); (case hg => rfl); (case hr => first | (go_simp; done) | (go_simp; rfl)); intro gb265 hg w26 hbox hb; have n0_ := Aside0.mk (Kd.R_below (by (with_reducible repeat (first | apply Kd.R_alloc | apply Kd.R_drewN | apply Kd.R_drew)); exact HO_3.out) hb); have n1_ := Aside0.mk (blk_below (g := gb259) (o := .cells #[.int .i64 a0_0, .string a0_1, .slice A0_2 l0_2.length c0_2, .int .i64 a0_3, .string a0_4, .int .i64 a0_5, .slice (some ad263) l0_6.length c0_6] 25 (0, 0)) (by (with_reducible repeat (first | refine blk_drewN ?_ _ | refine blk_drew ?_ | refine blk_alloc ?_ _)); exact BK259.out) hb); have n2_ := Aside0.mk (below_step (by repeat (first | (with_reducible first | exact HB.out | apply below_alloc | apply pw_below_drewN | apply below_drew1 | refine below_set ?_ GE259.out) | exact HB.out)) hb); have n3_ := Aside0.mk (hbox); have n4_ := Aside0.mk ((by rw [hg]; exact (below_size (by repeat (first | (with_reducible first | exact HB.out | apply below_alloc | apply pw_below_drewN | apply below_drew1 | refine below_set ?_ GE259.out) | exact HB.out))) : w.heap.size ≤ gb265)); have n5_ := Aside0.mk ((by rw [hg]; exact (below_size (by repeat (first | (with_reducible first | exact HB.out | apply below_alloc | apply pw_below_drewN | apply below_drew1 | refine below_set ?_ GE259.out) | exact HB.out))) : w.heap.size ≤ gb265)); have n6_ := Aside0.mk ((by rw [hg]; exact Nat.ne_of_lt (blk_lt (g := gb259) (o := .cells #[.int .i64 a0_0, .string a0_1, .slice A0_2 l0_2.length c0_2, .int .i64 a0_3, .string a0_4, .int .i64 a0_5, .slice (some ad263) l0_6.length c0_6] 25 (0, 0)) (by (with_reducible repeat (first | refine blk_drewN ?_ _ | refine blk_drew ?_ | refine blk_alloc ?_ _)); exact BK259.out)) : gb259 ≠ gb265)); have n7_ := Aside0.mk ((by rw [hg]; exact Nat.ne_of_gt (blk_lt (g := gb259) (o := .cells #[.int .i64 a0_0, .string a0_1, .slice A0_2 l0_2.length c0_2, .int .i64 a0_3, .string a0_4, .int .i64 a0_5, .slice (some ad263) l0_6.length c0_6] 25 (0, 0)) (by (with_reducible repeat (first | refine blk_drewN ?_ _ | refine blk_drew ?_ | refine blk_alloc ?_ _)); exact BK259.out)) : gb265 ≠ gb259)); clear HO_3; clear BK259; clear HB; have HO_3 := n0_; have BK259 := n1_; have HB := n2_; have BK265 := n3_; have GW265 := n4_; have GE265 := n5_; have NB259_265 := n6_; have NB265_259 := n7_; clear n0_ n1_ n2_ n3_ n4_ n5_ n6_ n7_; clear hb hbox hg; have hnb27 := NB265_259.out; have hnc27 := NB259_265.out; have hcz28_0 : w26.cell? ⟨gb265, 0, none⟩ = some (.string (⟨#[]⟩ : ByteArray)) := (blk_cell BK265.out 0).trans rfl; have hcz28_1 : w26.cell? ⟨gb265, 1, none⟩ = some (.bool false) := (blk_cell BK265.out 1).trans rfl; have hcz28_2 : w26.cell? ⟨gb265, 2, none⟩ = some (.int .i64 0) := (blk_cell BK265.out 2).trans rfl; have hcz28_3 : w26.cell? ⟨gb265, 3, none⟩ = some (.bool false) := (blk_cell BK265.out 3).trans rfl; have hcz28_4 : w26.cell? ⟨gb265, 4, none⟩ = some (.int .i64 0) := (blk_cell BK265.out 4).trans rfl; have hcz28_5 : w26.cell? ⟨gb265, 5, none⟩ = some (.string (⟨#[]⟩ : ByteArray)) := (blk_cell BK265.out 5).trans rfl; have hfz28_0 := blk_frozen BK265.out 0; have hfz28_1 := blk_frozen BK265.out 1; have hfz28_2 := blk_frozen BK265.out 2; have hfz28_3 := blk_frozen BK265.out 3; have hfz28_4 := blk_frozen BK265.out 4; have hfz28_5 := blk_frozen BK265.out 5))
                              go_roundg kj4
                              case measure => have := HK1.out; have := HK2.out; have := HJ4.out; omega
                              case rel => exact ⟨(x3_2), (wrap64 (x5_2 + 1)), (by first | rfl | (simp; done) | (simp [*]; done)), H', ⟨by have := HK1.out; have := HK2.out; have := HJ4.out; omega⟩, ⟨by (with_reducible repeat (first | apply Kd.R_alloc | apply Kd.R_drewN | apply Kd.R_drew)); exact Kd.R_mono (Kd.R_far (p := ⟨gb265, 5, none⟩) (Kd.R_far (p := ⟨gb265, 4, none⟩) (Kd.R_far (p := ⟨gb265, 3, none⟩) (Kd.R_far (p := ⟨gb265, 2, none⟩) (Kd.R_far (p := ⟨gb265, 1, none⟩) (Kd.R_far (p := ⟨gb265, 0, none⟩) (Kd.R_types HO_3.out BK265.out (by decide)) (fun _ hk => hk.2) (.string ((rd_T41 ((rd_T37 l0_6 x4_1).f2) x5_2).f0))) (fun _ hk => hk.2) (.bool false)) (fun _ hk => hk.2) (.int .i64 ((rd_T41 ((rd_T37 l0_6 x4_1).f2) x5_2).f2.f0))) (fun _ hk => hk.2) (.bool ((rd_T41 ((rd_T37 l0_6 x4_1).f2) x5_2).f2.f1))) (fun _ hk => hk.2) (.int .i64 ((rd_T41 ((rd_T37 l0_6 x4_1).f2) x5_2).f2.f2))) (fun _ hk => hk.2) (.string ((rd_T41 ((rd_T37 l0_6 x4_1).f2) x5_2).f2.f3))) (fun _ hk => trivial)⟩, ⟨by (with_reducible repeat (first | refine blk_drewN ?_ _ | refine blk_drew ?_ | refine blk_alloc ?_ _)); refine blk_far ?_ NB259_265.out _; (with_reducible repeat (first | refine blk_drewN ?_ _ | refine blk_drew ?_ | refine blk_alloc ?_ _)); refine blk_far ?_ NB259_265.out _; (with_reducible repeat (first | refine blk_drewN ?_ _ | refine blk_drew ?_ | refine blk_alloc ?_ _)); refine blk_far ?_ NB259_265.out _; (with_reducible repeat (first | refine blk_drewN ?_ _ | refine blk_drew ?_ | refine blk_alloc ?_ _)); refine blk_far ?_ NB259_265.out _; (with_reducible repeat (first | refine blk_drewN ?_ _ | refine blk_drew ?_ | refine blk_alloc ?_ _)); refine blk_far ?_ NB259_265.out _; (with_reducible repeat (first | refine blk_drewN ?_ _ | refine blk_drew ?_ | refine blk_alloc ?_ _)); refine blk_far ?_ NB259_265.out _; (with_reducible repeat (first | refine blk_drewN ?_ _ | refine blk_drew ?_ | refine blk_alloc ?_ _)); exact BK259.out⟩, ⟨by repeat (first | (with_reducible first | exact HB.out | apply below_alloc | apply pw_below_drewN | apply below_drew1 | refine below_set ?_ GE259.out | refine below_set ?_ GE265.out) | exact HB.out)⟩⟩
                            · rw [if_neg c24] at H
                              have c24b0 : (((rd_T41 ((rd_T37 l0_6 x4_1).f2) x5_2).f0).toList == ([] : List UInt8)) = false := beq_eq_false_iff_ne.mpr c24
                              have c24b1 : (((rd_T41 ((rd_T37 l0_6 x4_1).f2) x5_2).f0).toList != ([] : List UInt8)) = true := bne_iff_ne.mpr c24
                              replace H := Option.bind_eq_some_iff.mp H
                              obtain ⟨t266, A290, H⟩ := H
                              replace H : (if t266 = true then (verdererref15_Bound.l1 kj4 x3_2 x4_1 (wrap64 (x5_2 + 1)) a0_0 a0_1 l0_2 a0_3 a0_4 a0_5 l0_6) else (if x3_2.length < 8796093022208 then (verdererref15_Bound.l1 kj4 (x3_2 ++ [(rd_T41 ((rd_T37 l0_6 x4_1).f2) x5_2).f0]) x4_1 (wrap64 (x5_2 + 1)) a0_0 a0_1 l0_2 a0_3 a0_4 a0_5 l0_6) else (none))) = some r := H
                              have A29 := Aside0.mk A290
                              clear A290
                              by_cases c30 : t266 = true
                              · subst c30
                                have H1 : (verdererref15_Bound.l1 kj4 x3_2 x4_1 (wrap64 (x5_2 + 1)) a0_0 a0_1 l0_2 a0_3 a0_4 a0_5 l0_6) = some r := by rw [if_pos rfl] at H; exact H
                                clear H
                                have H := H1
                                clear H1
                                have H' := Aside0.mk H
                                clear H
                                have hcz31_0 : wc.cell? ⟨gb259, 0, none⟩ = some (.int .i64 a0_0) := (blk_cell BK259.out 0).trans rfl
                                have hcz31_1 : wc.cell? ⟨gb259, 1, none⟩ = some (.string a0_1) := (blk_cell BK259.out 1).trans rfl
                                have hcz31_2 : wc.cell? ⟨gb259, 2, none⟩ = some (.slice A0_2 l0_2.length c0_2) := (blk_cell BK259.out 2).trans rfl
                                have hcz31_3 : wc.cell? ⟨gb259, 3, none⟩ = some (.int .i64 a0_3) := (blk_cell BK259.out 3).trans rfl
                                have hcz31_4 : wc.cell? ⟨gb259, 4, none⟩ = some (.string a0_4) := (blk_cell BK259.out 4).trans rfl
                                have hcz31_5 : wc.cell? ⟨gb259, 5, none⟩ = some (.int .i64 a0_5) := (blk_cell BK259.out 5).trans rfl
                                have hcz31_6 : wc.cell? ⟨gb259, 6, none⟩ = some (.slice A0_6 l0_6.length c0_6) := (blk_cell BK259.out 6).trans rfl
                                have hfz31_0 := blk_frozen BK259.out 0
                                have hfz31_1 := blk_frozen BK259.out 1
                                have hfz31_2 := blk_frozen BK259.out 2
                                have hfz31_3 := blk_frozen BK259.out 3
                                have hfz31_4 := blk_frozen BK259.out 4
                                have hfz31_5 := blk_frozen BK259.out 5
                                have hfz31_6 := blk_frozen BK259.out 6
                                have p263 : 0 ≤ (x4_1 : Int) := of_decide_eq_true (by first | (with_reducible assumption) | assumption)
                                have q263 : x4_1 < (l0_6.length : Int) := of_decide_eq_true (by first | (with_reducible assumption) | assumption)
                                obtain ⟨ad263, A263_2, c263_2, e263, hx263_0, hx263_1, hx263_2, hx263_3, hl263_2, hi263_2⟩ := at_T37 HR0_6.out x4_1 p263 q263
                                (try rw [← Nbq18.out] at hx263_0)
                                cases e263
                                replace hx263_0 := (HB.out.cell (World.block_lt_of_cell? w _ hx263_0)).trans hx263_0
                                replace hx263_1 := (HB.out.cell (World.block_lt_of_cell? w _ hx263_1)).trans hx263_1
                                replace hx263_2 := (HB.out.cell (World.block_lt_of_cell? w _ hx263_2)).trans hx263_2
                                replace hx263_3 := (HB.out.cell (World.block_lt_of_cell? w _ hx263_3)).trans hx263_3
                                have HR263_2 := Aside0.mk hi263_2
                                have HC263_2 := Aside0.mk hl263_2
                                clear hi263_2 hl263_2
                                replace p263 := eq_true p263
                                replace q263 := eq_true q263
                                have p264 : 0 ≤ (x5_2 : Int) := of_decide_eq_true (by first | (with_reducible assumption) | assumption)
                                have q264 : x5_2 < (((rd_T37 l0_6 x4_1).f2).length : Int) := of_decide_eq_true (by first | (with_reducible assumption) | assumption)
                                obtain ⟨ad264, e264, hx264_0, hx264_1, hx264_2, hx264_3, hx264_4, hx264_5⟩ := at_T41 HR263_2.out x5_2 p264 q264
                                (try rw [← Nbq18.out] at hx264_1)
                                (try rw [← Nbq18.out] at hx264_3)
                                cases e264
                                replace hx264_0 := (HB.out.cell (World.block_lt_of_cell? w _ hx264_0)).trans hx264_0
                                replace hx264_1 := (HB.out.cell (World.block_lt_of_cell? w _ hx264_1)).trans hx264_1
                                replace hx264_2 := (HB.out.cell (World.block_lt_of_cell? w _ hx264_2)).trans hx264_2
                                replace hx264_3 := (HB.out.cell (World.block_lt_of_cell? w _ hx264_3)).trans hx264_3
                                replace hx264_4 := (HB.out.cell (World.block_lt_of_cell? w _ hx264_4)).trans hx264_4
                                replace hx264_5 := (HB.out.cell (World.block_lt_of_cell? w _ hx264_5)).trans hx264_5
                                replace p264 := eq_true p264
                                replace q264 := eq_true q264
                                go_wp2_with (first | ((with_reducible refine gate_dst (N := 6) rfl ?_); refine box_event ?hg (N := 6) ?hd (cs := #[.string (⟨#[]⟩ : ByteArray), .bool false, .int .i64 0, .bool false, .int .i64 0, .string (⟨#[]⟩ : ByteArray)]) (t := 41) ?hr ?_; (case hd => rfl); (case hg => rfl); (case hr => first | (go_simp; done) | (go_simp; rfl)); intro gb265 hg w32 hbox hb; have n0_ := Aside0.mk (Kd.R_below (by (with_reducible repeat (first | apply Kd.R_alloc | apply Kd.R_drewN | apply Kd.R_drew)); exact HO_3.out) hb); have n1_ := Aside0.mk (blk_below (g := gb259) (o := .cells #[.int .i64 a0_0, .string a0_1, .slice A0_2 l0_2.length c0_2, .int .i64 a0_3, .string a0_4, .int .i64 a0_5, .slice (some ad263) l0_6.length c0_6] 25 (0, 0)) (by (with_reducible repeat (first | refine blk_drewN ?_ _ | refine blk_drew ?_ | refine blk_alloc ?_ _)); exact BK259.out) hb); have n2_ := Aside0.mk (below_step (by repeat (first | (with_reducible first | exact HB.out | apply below_alloc | apply pw_below_drewN | apply below_drew1 | refine below_set ?_ GE259.out) | exact HB.out)) hb); have n3_ := Aside0.mk (hbox); have n4_ := Aside0.mk ((by rw [hg]; exact (below_size (by repeat (first | (with_reducible first | exact HB.out | apply below_alloc | apply pw_below_drewN | apply below_drew1 | refine below_set ?_ GE259.out) | exact HB.out))) : w.heap.size ≤ gb265)); have n5_ := Aside0.mk ((by rw [hg]; exact (below_size (by repeat (first | (with_reducible first | exact HB.out | apply below_alloc | apply pw_below_drewN | apply below_drew1 | refine below_set ?_ GE259.out) | exact HB.out))) : w.heap.size ≤ gb265)); have n6_ := Aside0.mk ((by rw [hg]; exact Nat.ne_of_lt (blk_lt (g := gb259) (o := .cells #[.int .i64 a0_0, .string a0_1, .slice A0_2 l0_2.length c0_2, .int .i64 a0_3, .string a0_4, .int .i64 a0_5, .slice (some ad263) l0_6.length c0_6] 25 (0, 0)) (by (with_reducible repeat (first | refine blk_drewN ?_ _ | refine blk_drew ?_ | refine blk_alloc ?_ _)); exact BK259.out)) : gb259 ≠ gb265)); have n7_ := Aside0.mk ((by rw [hg]; exact Nat.ne_of_gt (blk_lt (g := gb259) (o := .cells #[.int .i64 a0_0, .string a0_1, .slice A0_2 l0_2.length c0_2, .int .i64 a0_3, .string a0_4, .int .i64 a0_5, .slice (some ad263) l0_6.length c0_6] 25 (0, 0)) (by (with_reducible repeat (first | refine blk_drewN ?_ _ | refine blk_drew ?_ | refine blk_alloc ?_ _)); exact BK259.out)) : gb265 ≠ gb259)); clear HO_3; clear BK259; clear HB; have HO_3 := n0_; have BK259 := n1_; have HB := n2_; have BK265 := n3_; have GW265 := n4_; have GE265 := n5_; have NB259_265 := n6_; have NB265_259 := n7_; clear n0_ n1_ n2_ n3_ n4_ n5_ n6_ n7_; clear hb hbox hg; have hnb33 := NB265_259.out; have hnc33 := NB259_265.out; have hcz34_0 : w32.cell? ⟨gb265, 0, none⟩ = some (.string (⟨#[]⟩ : ByteArray)) := (blk_cell BK265.out 0).trans rfl; have hcz34_1 : w32.cell? ⟨gb265, 1, none⟩ = some (.bool false) := (blk_cell BK265.out 1).trans rfl; have hcz34_2 : w32.cell? ⟨gb265, 2, none⟩ = some (.int .i64 0) := (blk_cell BK265.out 2).trans rfl; have hcz34_3 : w32.cell? ⟨gb265, 3, none⟩ = some (.bool false) := (blk_cell BK265.out 3).trans rfl; have hcz34_4 : w32.cell? ⟨gb265, 4, none⟩ = some (.int .i64 0) := (blk_cell BK265.out 4).trans rfl; have hcz34_5 : w32.cell? ⟨gb265, 5, none⟩ = some (.string (⟨#[]⟩ : ByteArray)) := (blk_cell BK265.out 5).trans rfl; have hfz34_0 := blk_frozen BK265.out 0; have hfz34_1 := blk_frozen BK265.out 1; have hfz34_2 := blk_frozen BK265.out 2; have hfz34_3 := blk_frozen BK265.out 3; have hfz34_4 := blk_frozen BK265.out 4; have hfz34_5 := blk_frozen BK265.out 5; obtain ⟨Ao35, co35, eo35⟩ := Kd.R_slice HO_3.out; subst eo35) | (go_at_call 18; (with_reducible refine (verdererref15_has.calls kj4 _ _ x3_2 ((rd_T41 ((rd_T37 l0_6 x4_1).f2) x5_2).f0) true _ ?side1 ?side2 A29.out).mono ?_); (case side1 => refine (Kd.R_reads' (e := 9) (base := w.heap.size) (ok := fun k_ => True) (n := x3_2.length) (c := co35) ?_).2.2; exact (by (with_reducible repeat (first | apply Kd.R_alloc | apply Kd.R_drewN | apply Kd.R_drew)); exact (Kd.R_mono (Kd.R_far (p := ⟨gb265, 5, none⟩) (Kd.R_far (p := ⟨gb265, 4, none⟩) (Kd.R_far (p := ⟨gb265, 3, none⟩) (Kd.R_far (p := ⟨gb265, 2, none⟩) (Kd.R_far (p := ⟨gb265, 1, none⟩) (Kd.R_far (p := ⟨gb265, 0, none⟩) (Kd.R_types HO_3.out BK265.out (by decide)) (fun _ hk => hk.2) (.string ((rd_T41 ((rd_T37 l0_6 x4_1).f2) x5_2).f0))) (fun _ hk => hk.2) (.bool false)) (fun _ hk => hk.2) (.int .i64 ((rd_T41 ((rd_T37 l0_6 x4_1).f2) x5_2).f2.f0))) (fun _ hk => hk.2) (.bool ((rd_T41 ((rd_T37 l0_6 x4_1).f2) x5_2).f2.f1))) (fun _ hk => hk.2) (.int .i64 ((rd_T41 ((rd_T37 l0_6 x4_1).f2) x5_2).f2.f2))) (fun _ hk => hk.2) (.string ((rd_T41 ((rd_T37 l0_6 x4_1).f2) x5_2).f2.f3))) (fun _ h_ => h_.1)))); (case side2 => exact (Kd.R_reads' HO_3.out).2.1); rintro e w' ⟨rfl, ⟨nd, rfl⟩⟩))
                                go_roundg kj4
                                case measure => have := HK1.out; have := HK2.out; have := HJ4.out; omega
                                case rel => exact ⟨(x3_2), (wrap64 (x5_2 + 1)), (by first | rfl | (simp; done) | (simp [*]; done)), H', ⟨by have := HK1.out; have := HK2.out; have := HJ4.out; omega⟩, ⟨by (with_reducible repeat (first | apply Kd.R_alloc | apply Kd.R_drewN | apply Kd.R_drew)); exact Kd.R_mono (Kd.R_far (p := ⟨gb265, 5, none⟩) (Kd.R_far (p := ⟨gb265, 4, none⟩) (Kd.R_far (p := ⟨gb265, 3, none⟩) (Kd.R_far (p := ⟨gb265, 2, none⟩) (Kd.R_far (p := ⟨gb265, 1, none⟩) (Kd.R_far (p := ⟨gb265, 0, none⟩) (Kd.R_types HO_3.out BK265.out (by decide)) (fun _ hk => hk.2) (.string ((rd_T41 ((rd_T37 l0_6 x4_1).f2) x5_2).f0))) (fun _ hk => hk.2) (.bool false)) (fun _ hk => hk.2) (.int .i64 ((rd_T41 ((rd_T37 l0_6 x4_1).f2) x5_2).f2.f0))) (fun _ hk => hk.2) (.bool ((rd_T41 ((rd_T37 l0_6 x4_1).f2) x5_2).f2.f1))) (fun _ hk => hk.2) (.int .i64 ((rd_T41 ((rd_T37 l0_6 x4_1).f2) x5_2).f2.f2))) (fun _ hk => hk.2) (.string ((rd_T41 ((rd_T37 l0_6 x4_1).f2) x5_2).f2.f3))) (fun _ hk => trivial)⟩, ⟨by (with_reducible repeat (first | refine blk_drewN ?_ _ | refine blk_drew ?_ | refine blk_alloc ?_ _)); refine blk_far ?_ NB259_265.out _; (with_reducible repeat (first | refine blk_drewN ?_ _ | refine blk_drew ?_ | refine blk_alloc ?_ _)); refine blk_far ?_ NB259_265.out _; (with_reducible repeat (first | refine blk_drewN ?_ _ | refine blk_drew ?_ | refine blk_alloc ?_ _)); refine blk_far ?_ NB259_265.out _; (with_reducible repeat (first | refine blk_drewN ?_ _ | refine blk_drew ?_ | refine blk_alloc ?_ _)); refine blk_far ?_ NB259_265.out _; (with_reducible repeat (first | refine blk_drewN ?_ _ | refine blk_drew ?_ | refine blk_alloc ?_ _)); refine blk_far ?_ NB259_265.out _; (with_reducible repeat (first | refine blk_drewN ?_ _ | refine blk_drew ?_ | refine blk_alloc ?_ _)); refine blk_far ?_ NB259_265.out _; (with_reducible repeat (first | refine blk_drewN ?_ _ | refine blk_drew ?_ | refine blk_alloc ?_ _)); exact BK259.out⟩, ⟨by repeat (first | (with_reducible first | exact HB.out | apply below_alloc | apply pw_below_drewN | apply below_drew1 | refine below_set ?_ GE259.out | refine below_set ?_ GE265.out) | exact HB.out)⟩⟩
                              · replace c30 := Bool.eq_false_iff.mpr c30
                                subst c30
                                have H1 : (if x3_2.length < 8796093022208 then (verdererref15_Bound.l1 kj4 (x3_2 ++ [(rd_T41 ((rd_T37 l0_6 x4_1).f2) x5_2).f0]) x4_1 (wrap64 (x5_2 + 1)) a0_0 a0_1 l0_2 a0_3 a0_4 a0_5 l0_6) else (none)) = some r := by rw [if_neg (show ¬ (false = true) by decide)] at H; exact H
                                clear H
                                have H := H1
                                clear H1
                                by_cases c36 : x3_2.length < 8796093022208
                                · rw [if_pos c36] at H
                                  have LMc36 := Aside0.mk c36
                                  clear c36
                                  obtain ⟨y267, hy267⟩ : ∃ y_ : List ByteArray, y_ = (x3_2 ++ [(rd_T41 ((rd_T37 l0_6 x4_1).f2) x5_2).f0]) := ⟨_, rfl⟩
                                  replace H : (verdererref15_Bound.l1 kj4 y267 x4_1 (wrap64 (x5_2 + 1)) a0_0 a0_1 l0_2 a0_3 a0_4 a0_5 l0_6) = some r := by first | (rw [hy267]; with_reducible exact H) | (have H2_ := (Option.bind_some _ _).symm.trans H; rw [hy267]; with_reducible exact H2_) | (have H2_ := (Option.bind_some _ _).symm.trans H; with_reducible exact H2_) | with_reducible exact H | (rw [hy267]; exact H) | exact H
                                  have Ny267 := Aside0.mk hy267
                                  clear hy267
                                  have H' := Aside0.mk H
                                  clear H
                                  have hcz37_0 : wc.cell? ⟨gb259, 0, none⟩ = some (.int .i64 a0_0) := (blk_cell BK259.out 0).trans rfl
                                  have hcz37_1 : wc.cell? ⟨gb259, 1, none⟩ = some (.string a0_1) := (blk_cell BK259.out 1).trans rfl
                                  have hcz37_2 : wc.cell? ⟨gb259, 2, none⟩ = some (.slice A0_2 l0_2.length c0_2) := (blk_cell BK259.out 2).trans rfl
                                  have hcz37_3 : wc.cell? ⟨gb259, 3, none⟩ = some (.int .i64 a0_3) := (blk_cell BK259.out 3).trans rfl
                                  have hcz37_4 : wc.cell? ⟨gb259, 4, none⟩ = some (.string a0_4) := (blk_cell BK259.out 4).trans rfl
                                  have hcz37_5 : wc.cell? ⟨gb259, 5, none⟩ = some (.int .i64 a0_5) := (blk_cell BK259.out 5).trans rfl
                                  have hcz37_6 : wc.cell? ⟨gb259, 6, none⟩ = some (.slice A0_6 l0_6.length c0_6) := (blk_cell BK259.out 6).trans rfl
                                  have hfz37_0 := blk_frozen BK259.out 0
                                  have hfz37_1 := blk_frozen BK259.out 1
                                  have hfz37_2 := blk_frozen BK259.out 2
                                  have hfz37_3 := blk_frozen BK259.out 3
                                  have hfz37_4 := blk_frozen BK259.out 4
                                  have hfz37_5 := blk_frozen BK259.out 5
                                  have hfz37_6 := blk_frozen BK259.out 6
                                  have p263 : 0 ≤ (x4_1 : Int) := of_decide_eq_true (by first | (with_reducible assumption) | assumption)
                                  have q263 : x4_1 < (l0_6.length : Int) := of_decide_eq_true (by first | (with_reducible assumption) | assumption)
                                  obtain ⟨ad263, A263_2, c263_2, e263, hx263_0, hx263_1, hx263_2, hx263_3, hl263_2, hi263_2⟩ := at_T37 HR0_6.out x4_1 p263 q263
                                  (try rw [← Nbq18.out] at hx263_0)
                                  cases e263
                                  replace hx263_0 := (HB.out.cell (World.block_lt_of_cell? w _ hx263_0)).trans hx263_0
                                  replace hx263_1 := (HB.out.cell (World.block_lt_of_cell? w _ hx263_1)).trans hx263_1
                                  replace hx263_2 := (HB.out.cell (World.block_lt_of_cell? w _ hx263_2)).trans hx263_2
                                  replace hx263_3 := (HB.out.cell (World.block_lt_of_cell? w _ hx263_3)).trans hx263_3
                                  have HR263_2 := Aside0.mk hi263_2
                                  have HC263_2 := Aside0.mk hl263_2
                                  clear hi263_2 hl263_2
                                  replace p263 := eq_true p263
                                  replace q263 := eq_true q263
                                  have p264 : 0 ≤ (x5_2 : Int) := of_decide_eq_true (by first | (with_reducible assumption) | assumption)
                                  have q264 : x5_2 < (((rd_T37 l0_6 x4_1).f2).length : Int) := of_decide_eq_true (by first | (with_reducible assumption) | assumption)
                                  obtain ⟨ad264, e264, hx264_0, hx264_1, hx264_2, hx264_3, hx264_4, hx264_5⟩ := at_T41 HR263_2.out x5_2 p264 q264
                                  (try rw [← Nbq18.out] at hx264_1)
                                  (try rw [← Nbq18.out] at hx264_3)
                                  cases e264
                                  replace hx264_0 := (HB.out.cell (World.block_lt_of_cell? w _ hx264_0)).trans hx264_0
                                  replace hx264_1 := (HB.out.cell (World.block_lt_of_cell? w _ hx264_1)).trans hx264_1
                                  replace hx264_2 := (HB.out.cell (World.block_lt_of_cell? w _ hx264_2)).trans hx264_2
                                  replace hx264_3 := (HB.out.cell (World.block_lt_of_cell? w _ hx264_3)).trans hx264_3
                                  replace hx264_4 := (HB.out.cell (World.block_lt_of_cell? w _ hx264_4)).trans hx264_4
                                  replace hx264_5 := (HB.out.cell (World.block_lt_of_cell? w _ hx264_5)).trans hx264_5
                                  replace p264 := eq_true p264
                                  replace q264 := eq_true q264
                                  go_wp2_with (first | ((with_reducible refine gate_dst (N := 6) rfl ?_); refine box_event ?hg (N := 6) ?hd (cs := #[.string (⟨#[]⟩ : ByteArray), .bool false, .int .i64 0, .bool false, .int .i64 0, .string (⟨#[]⟩ : ByteArray)]) (t := 41) ?hr ?_; (case hd => rfl); (case hg => rfl); (case hr => first | (go_simp; done) | (go_simp; rfl)); intro gb265 hg w38 hbox hb; have n0_ := Aside0.mk (Kd.R_below (by (with_reducible repeat (first | apply Kd.R_alloc | apply Kd.R_drewN | apply Kd.R_drew)); exact HO_3.out) hb); have n1_ := Aside0.mk (blk_below (g := gb259) (o := .cells #[.int .i64 a0_0, .string a0_1, .slice A0_2 l0_2.length c0_2, .int .i64 a0_3, .string a0_4, .int .i64 a0_5, .slice (some ad263) l0_6.length c0_6] 25 (0, 0)) (by (with_reducible repeat (first | refine blk_drewN ?_ _ | refine blk_drew ?_ | refine blk_alloc ?_ _)); exact BK259.out) hb); have n2_ := Aside0.mk (below_step (by repeat (first | (with_reducible first | exact HB.out | apply below_alloc | apply pw_below_drewN | apply below_drew1 | refine below_set ?_ GE259.out) | exact HB.out)) hb); have n3_ := Aside0.mk (hbox); have n4_ := Aside0.mk ((by rw [hg]; exact (below_size (by repeat (first | (with_reducible first | exact HB.out | apply below_alloc | apply pw_below_drewN | apply below_drew1 | refine below_set ?_ GE259.out) | exact HB.out))) : w.heap.size ≤ gb265)); have n5_ := Aside0.mk ((by rw [hg]; exact (below_size (by repeat (first | (with_reducible first | exact HB.out | apply below_alloc | apply pw_below_drewN | apply below_drew1 | refine below_set ?_ GE259.out) | exact HB.out))) : w.heap.size ≤ gb265)); have n6_ := Aside0.mk ((by rw [hg]; exact Nat.ne_of_lt (blk_lt (g := gb259) (o := .cells #[.int .i64 a0_0, .string a0_1, .slice A0_2 l0_2.length c0_2, .int .i64 a0_3, .string a0_4, .int .i64 a0_5, .slice (some ad263) l0_6.length c0_6] 25 (0, 0)) (by (with_reducible repeat (first | refine blk_drewN ?_ _ | refine blk_drew ?_ | refine blk_alloc ?_ _)); exact BK259.out)) : gb259 ≠ gb265)); have n7_ := Aside0.mk ((by rw [hg]; exact Nat.ne_of_gt (blk_lt (g := gb259) (o := .cells #[.int .i64 a0_0, .string a0_1, .slice A0_2 l0_2.length c0_2, .int .i64 a0_3, .string a0_4, .int .i64 a0_5, .slice (some ad263) l0_6.length c0_6] 25 (0, 0)) (by (with_reducible repeat (first | refine blk_drewN ?_ _ | refine blk_drew ?_ | refine blk_alloc ?_ _)); exact BK259.out)) : gb265 ≠ gb259)); clear HO_3; clear BK259; clear HB; have HO_3 := n0_; have BK259 := n1_; have HB := n2_; have BK265 := n3_; have GW265 := n4_; have GE265 := n5_; have NB259_265 := n6_; have NB265_259 := n7_; clear n0_ n1_ n2_ n3_ n4_ n5_ n6_ n7_; clear hb hbox hg; have hnb39 := NB265_259.out; have hnc39 := NB259_265.out; have hcz40_0 : w38.cell? ⟨gb265, 0, none⟩ = some (.string (⟨#[]⟩ : ByteArray)) := (blk_cell BK265.out 0).trans rfl; have hcz40_1 : w38.cell? ⟨gb265, 1, none⟩ = some (.bool false) := (blk_cell BK265.out 1).trans rfl; have hcz40_2 : w38.cell? ⟨gb265, 2, none⟩ = some (.int .i64 0) := (blk_cell BK265.out 2).trans rfl; have hcz40_3 : w38.cell? ⟨gb265, 3, none⟩ = some (.bool false) := (blk_cell BK265.out 3).trans rfl; have hcz40_4 : w38.cell? ⟨gb265, 4, none⟩ = some (.int .i64 0) := (blk_cell BK265.out 4).trans rfl; have hcz40_5 : w38.cell? ⟨gb265, 5, none⟩ = some (.string (⟨#[]⟩ : ByteArray)) := (blk_cell BK265.out 5).trans rfl; have hfz40_0 := blk_frozen BK265.out 0; have hfz40_1 := blk_frozen BK265.out 1; have hfz40_2 := blk_frozen BK265.out 2; have hfz40_3 := blk_frozen BK265.out 3; have hfz40_4 := blk_frozen BK265.out 4; have hfz40_5 := blk_frozen BK265.out 5; obtain ⟨Ao41, co41, eo41⟩ := Kd.R_slice HO_3.out; subst eo41) | (go_at_call 18; (with_reducible refine (verdererref15_has.calls kj4 _ _ x3_2 ((rd_T41 ((rd_T37 l0_6 x4_1).f2) x5_2).f0) false _ ?side1 ?side2 A29.out).mono ?_); (case side1 => refine (Kd.R_reads' (e := 9) (base := w.heap.size) (ok := fun k_ => True) (n := x3_2.length) (c := co41) ?_).2.2; exact (by (with_reducible repeat (first | apply Kd.R_alloc | apply Kd.R_drewN | apply Kd.R_drew)); exact (Kd.R_mono (Kd.R_far (p := ⟨gb265, 5, none⟩) (Kd.R_far (p := ⟨gb265, 4, none⟩) (Kd.R_far (p := ⟨gb265, 3, none⟩) (Kd.R_far (p := ⟨gb265, 2, none⟩) (Kd.R_far (p := ⟨gb265, 1, none⟩) (Kd.R_far (p := ⟨gb265, 0, none⟩) (Kd.R_types HO_3.out BK265.out (by decide)) (fun _ hk => hk.2) (.string ((rd_T41 ((rd_T37 l0_6 x4_1).f2) x5_2).f0))) (fun _ hk => hk.2) (.bool false)) (fun _ hk => hk.2) (.int .i64 ((rd_T41 ((rd_T37 l0_6 x4_1).f2) x5_2).f2.f0))) (fun _ hk => hk.2) (.bool ((rd_T41 ((rd_T37 l0_6 x4_1).f2) x5_2).f2.f1))) (fun _ hk => hk.2) (.int .i64 ((rd_T41 ((rd_T37 l0_6 x4_1).f2) x5_2).f2.f2))) (fun _ hk => hk.2) (.string ((rd_T41 ((rd_T37 l0_6 x4_1).f2) x5_2).f2.f3))) (fun _ h_ => h_.1)))); (case side2 => exact (Kd.R_reads' HO_3.out).2.1); rintro e w' ⟨rfl, ⟨nd, rfl⟩⟩) | ((with_reducible refine gate_builtin (b := .append) (xs := #[.tmp 57, .tmp 60]) rfl ?_); at_builtin; refine Kd.R_append Kd.string (w0 := w) w.heap.size rfl (.tmp 57) (.tmp 60) 22 9 (.string ⟨#[]⟩) 16 rfl Try.underlying22 info9 rfl (by decide) (by omega) (.slice Ao41 x3_2.length co41) x3_2 ((rd_T41 ((rd_T37 l0_6 x4_1).f2) x5_2).f0) [.string ((rd_T41 ((rd_T37 l0_6 x4_1).f2) x5_2).f0)] (fun _ => True) (fun _ => False) rfl (by first | (go_simp; done) | (go_simp; rfl)) ?aP (fun _ hk => hk.elim) ?aF ?aO ?aB ?aS ?aL ?_; (case aP => exact rfl); (case aB => exact (by repeat (first | (with_reducible first | exact HB.out | apply below_alloc | apply pw_below_drewN | apply below_drew1 | refine below_set ?_ GE259.out | refine below_set ?_ GE265.out) | exact HB.out))); (case aF => exact (fun _ _ => trivial)); (case aO => exact (by (with_reducible repeat (first | apply Kd.R_alloc | apply Kd.R_drewN | apply Kd.R_drew)); exact Kd.R_mono (Kd.R_far (p := ⟨gb265, 5, none⟩) (Kd.R_far (p := ⟨gb265, 4, none⟩) (Kd.R_far (p := ⟨gb265, 3, none⟩) (Kd.R_far (p := ⟨gb265, 2, none⟩) (Kd.R_far (p := ⟨gb265, 1, none⟩) (Kd.R_far (p := ⟨gb265, 0, none⟩) (Kd.R_types HO_3.out BK265.out (by decide)) (fun _ hk => hk.2) (.string ((rd_T41 ((rd_T37 l0_6 x4_1).f2) x5_2).f0))) (fun _ hk => hk.2) (.bool false)) (fun _ hk => hk.2) (.int .i64 ((rd_T41 ((rd_T37 l0_6 x4_1).f2) x5_2).f2.f0))) (fun _ hk => hk.2) (.bool ((rd_T41 ((rd_T37 l0_6 x4_1).f2) x5_2).f2.f1))) (fun _ hk => hk.2) (.int .i64 ((rd_T41 ((rd_T37 l0_6 x4_1).f2) x5_2).f2.f2))) (fun _ hk => hk.2) (.string ((rd_T41 ((rd_T37 l0_6 x4_1).f2) x5_2).f2.f3))) (fun _ hk => trivial))); (case aS => exact (below_size (by repeat (first | (with_reducible first | exact HB.out | apply below_alloc | apply pw_below_drewN | apply below_drew1 | refine below_set ?_ GE259.out | refine below_set ?_ GE265.out) | exact HB.out)))); (case aL => have := LMc36.out; omega); intro v268 w42 ho hb hg hat; rw [← Ny267.out] at ho; have n0_ := Aside0.mk (blk_grown (g := gb259) (o := .cells #[.int .i64 a0_0, .string a0_1, .slice A0_2 l0_2.length c0_2, .int .i64 a0_3, .string a0_4, .int .i64 a0_5, .slice (some ad263) l0_6.length c0_6] 25 (0, 0)) (by (with_reducible repeat (first | refine blk_drewN ?_ _ | refine blk_drew ?_ | refine blk_alloc ?_ _)); refine blk_far ?_ NB259_265.out _; (with_reducible repeat (first | refine blk_drewN ?_ _ | refine blk_drew ?_ | refine blk_alloc ?_ _)); refine blk_far ?_ NB259_265.out _; (with_reducible repeat (first | refine blk_drewN ?_ _ | refine blk_drew ?_ | refine blk_alloc ?_ _)); refine blk_far ?_ NB259_265.out _; (with_reducible repeat (first | refine blk_drewN ?_ _ | refine blk_drew ?_ | refine blk_alloc ?_ _)); refine blk_far ?_ NB259_265.out _; (with_reducible repeat (first | refine blk_drewN ?_ _ | refine blk_drew ?_ | refine blk_alloc ?_ _)); refine blk_far ?_ NB259_265.out _; (with_reducible repeat (first | refine blk_drewN ?_ _ | refine blk_drew ?_ | refine blk_alloc ?_ _)); refine blk_far ?_ NB259_265.out _; (with_reducible repeat (first | refine blk_drewN ?_ _ | refine blk_drew ?_ | refine blk_alloc ?_ _)); exact BK259.out) hg (Kd.R_ne HO_3.out BK259.out (by decide))); have n1_ := Aside0.mk (blk_grown (g := gb265) (o := .cells #[.string ((rd_T41 ((rd_T37 l0_6 x4_1).f2) x5_2).f0), .bool false, .int .i64 ((rd_T41 ((rd_T37 l0_6 x4_1).f2) x5_2).f2.f0), .bool ((rd_T41 ((rd_T37 l0_6 x4_1).f2) x5_2).f2.f1), .int .i64 ((rd_T41 ((rd_T37 l0_6 x4_1).f2) x5_2).f2.f2), .string ((rd_T41 ((rd_T37 l0_6 x4_1).f2) x5_2).f2.f3)] 41 (0, 0)) (by (with_reducible repeat (first | refine blk_drewN ?_ _ | refine blk_drew ?_ | refine blk_alloc ?_ _)); refine blk_put (cs := #[.string ((rd_T41 ((rd_T37 l0_6 x4_1).f2) x5_2).f0), .bool false, .int .i64 ((rd_T41 ((rd_T37 l0_6 x4_1).f2) x5_2).f2.f0), .bool ((rd_T41 ((rd_T37 l0_6 x4_1).f2) x5_2).f2.f1), .int .i64 ((rd_T41 ((rd_T37 l0_6 x4_1).f2) x5_2).f2.f2), .string (⟨#[]⟩ : ByteArray)]) ?_ 5 _ rfl; (with_reducible repeat (first | refine blk_drewN ?_ _ | refine blk_drew ?_ | refine blk_alloc ?_ _)); refine blk_put (cs := #[.string ((rd_T41 ((rd_T37 l0_6 x4_1).f2) x5_2).f0), .bool false, .int .i64 ((rd_T41 ((rd_T37 l0_6 x4_1).f2) x5_2).f2.f0), .bool ((rd_T41 ((rd_T37 l0_6 x4_1).f2) x5_2).f2.f1), .int .i64 0, .string (⟨#[]⟩ : ByteArray)]) ?_ 4 _ rfl; (with_reducible repeat (first | refine blk_drewN ?_ _ | refine blk_drew ?_ | refine blk_alloc ?_ _)); refine blk_put (cs := #[.string ((rd_T41 ((rd_T37 l0_6 x4_1).f2) x5_2).f0), .bool false, .int .i64 ((rd_T41 ((rd_T37 l0_6 x4_1).f2) x5_2).f2.f0), .bool false, .int .i64 0, .string (⟨#[]⟩ : ByteArray)]) ?_ 3 _ rfl; (with_reducible repeat (first | refine blk_drewN ?_ _ | refine blk_drew ?_ | refine blk_alloc ?_ _)); refine blk_put (cs := #[.string ((rd_T41 ((rd_T37 l0_6 x4_1).f2) x5_2).f0), .bool false, .int .i64 0, .bool false, .int .i64 0, .string (⟨#[]⟩ : ByteArray)]) ?_ 2 _ rfl; (with_reducible repeat (first | refine blk_drewN ?_ _ | refine blk_drew ?_ | refine blk_alloc ?_ _)); refine blk_put (cs := #[.string ((rd_T41 ((rd_T37 l0_6 x4_1).f2) x5_2).f0), .bool false, .int .i64 0, .bool false, .int .i64 0, .string (⟨#[]⟩ : ByteArray)]) ?_ 1 _ rfl; (with_reducible repeat (first | refine blk_drewN ?_ _ | refine blk_drew ?_ | refine blk_alloc ?_ _)); refine blk_put (cs := #[.string (⟨#[]⟩ : ByteArray), .bool false, .int .i64 0, .bool false, .int .i64 0, .string (⟨#[]⟩ : ByteArray)]) ?_ 0 _ rfl; (with_reducible repeat (first | refine blk_drewN ?_ _ | refine blk_drew ?_ | refine blk_alloc ?_ _)); exact BK265.out) hg (Kd.R_ne HO_3.out BK265.out (by decide))); have n2_ := Aside0.mk (hb); have n3_ := Aside0.mk (ho); clear BK259; clear BK265; clear HB; clear HO_3; have BK259 := n0_; have BK265 := n1_; have HB := n2_; have HO269 := n3_; clear n0_ n1_ n2_ n3_; clear ho hb hg hat))
                                  go_roundg kj4
                                  case measure => have := HK1.out; have := HK2.out; have := HJ4.out; omega
                                  case rel => exact ⟨(y267), (wrap64 (x5_2 + 1)), (by first | rfl | (simp; done) | (simp [*]; done)), H', ⟨by have := HK1.out; have := HK2.out; have := HJ4.out; omega⟩, ⟨by (with_reducible repeat (first | apply Kd.R_alloc | apply Kd.R_drewN | apply Kd.R_drew)); exact HO269.out⟩, ⟨by (with_reducible repeat (first | refine blk_drewN ?_ _ | refine blk_drew ?_ | refine blk_alloc ?_ _)); exact BK259.out⟩, ⟨by repeat (first | (with_reducible first | exact HB.out | apply below_alloc | apply pw_below_drewN | apply below_drew1 | refine below_set ?_ GE259.out | refine below_set ?_ GE265.out) | exact HB.out)⟩⟩
                                · rw [if_neg c36] at H
                                  exact absurd H (by simp)
                        · rw [if_neg c17] at H
                          exact absurd H (by simp)
                      · rw [if_neg c16] at H
                        exact absurd H (by simp)
                    · rw [if_neg c15] at H
                      exact absurd H (by simp)
                  · rw [if_neg c14] at H
                    exact absurd H (by simp)
                · replace c13 := Bool.eq_false_iff.mpr c13
                  subst c13
                  have H1 : (verdererref15_Bound.l0 kj4 x3_2 (wrap64 (x4_1 + 1)) a0_0 a0_1 l0_2 a0_3 a0_4 a0_5 l0_6) = some r := by rw [if_neg (show ¬ (false = true) by decide)] at H; exact H
                  clear H
                  have H := H1
                  clear H1
                  have H' := Aside0.mk H
                  clear H
                  go_wp2
                  go_roundg kj4
                  case measure => have := HK1.out; have := HK2.out; have := HJ4.out; omega
                  case rel => exact ⟨(x3_2), (wrap64 (x4_1 + 1)), (by first | rfl | (simp; done) | (simp [*]; done)), H', ⟨by have := HK1.out; have := HK2.out; have := HJ4.out; omega⟩, ⟨by (with_reducible repeat (first | apply Kd.R_alloc | apply Kd.R_drewN | apply Kd.R_drew)); exact HO_3.out⟩, ⟨by (with_reducible repeat (first | refine blk_drewN ?_ _ | refine blk_drew ?_ | refine blk_alloc ?_ _)); exact BK259.out⟩, ⟨by repeat (first | (with_reducible first | exact HB.out | apply below_alloc | apply pw_below_drewN | apply below_drew1 | refine below_set ?_ GE259.out) | exact HB.out)⟩⟩
      · rw [if_neg c3] at H
        have c3b0 : decide (x4_1 < (l0_6.length : Int)) = false := decide_eq_false c3
        clear c3
        obtain rfl := Option.some.inj H
        have hcz43_0 : wr.cell? ⟨gb259, 0, none⟩ = some (.int .i64 a0_0) := (blk_cell BK259.out 0).trans rfl
        have hcz43_1 : wr.cell? ⟨gb259, 1, none⟩ = some (.string a0_1) := (blk_cell BK259.out 1).trans rfl
        have hcz43_2 : wr.cell? ⟨gb259, 2, none⟩ = some (.slice A0_2 l0_2.length c0_2) := (blk_cell BK259.out 2).trans rfl
        have hcz43_3 : wr.cell? ⟨gb259, 3, none⟩ = some (.int .i64 a0_3) := (blk_cell BK259.out 3).trans rfl
        have hcz43_4 : wr.cell? ⟨gb259, 4, none⟩ = some (.string a0_4) := (blk_cell BK259.out 4).trans rfl
        have hcz43_5 : wr.cell? ⟨gb259, 5, none⟩ = some (.int .i64 a0_5) := (blk_cell BK259.out 5).trans rfl
        have hcz43_6 : wr.cell? ⟨gb259, 6, none⟩ = some (.slice A0_6 l0_6.length c0_6) := (blk_cell BK259.out 6).trans rfl
        have hfz43_0 := blk_frozen BK259.out 0
        have hfz43_1 := blk_frozen BK259.out 1
        have hfz43_2 := blk_frozen BK259.out 2
        have hfz43_3 := blk_frozen BK259.out 3
        have hfz43_4 := blk_frozen BK259.out 4
        have hfz43_5 := blk_frozen BK259.out 5
        have hfz43_6 := blk_frozen BK259.out 6
        go_wp2
        go_ret
        exact ⟨_, by first | rfl | (simp [errW_none, errW_some] <;> rfl) | (simp [*, errW_none, errW_some] <;> rfl), by (with_reducible repeat (first | apply Kd.R_alloc | apply Kd.R_drewN | apply Kd.R_drew)); exact HO_3.out, by repeat (first | (with_reducible first | exact HB.out | apply below_alloc | apply pw_below_drewN | apply below_drew1 | refine below_set ?_ GE259.out) | exact HB.out)⟩

end Go.Proofs.Ytdagpgccjamkmaa.G
