import Derived.Test.YtdagpgccjamkmaaRows
import Derived.Test.YtdagpgccjamkmaaGt
import Derived.Test.YtdagpgccjamkmaaGpD
import Derived.Test.YtdagpgccjamkmaaGpF
import Derived.WalkKit
import Derived.ProofKit
import Derived.OpenShut
import Derived.ShutString
import Derived.ChangeOld
import Derived.Below
import Derived.Carry
import Derived.SizedLaws
/-! The law: whatever the rule, it returns true, and the rule reads as it did. -/
namespace Go.Proofs.Ytdagpgccjamkmaa
open Go.ChangeShapes Go.WideShapes Go.ChangeAt Go.RowKit
open Go.ChangeMaps (open_string shut_string)
open Go.Proofs.YtdagpgccjamkmaaW.PrintWords Go.Proofs.YtdagpgccjamkmaaW.PrintLast Go.Proofs.YtdagpgccjamkmaaW.PrintMore

theorem own_ : ownKnob Try.prog.godebug = none := by kernel_rfl
theorem laid_ : laidOutB Try.prog = true := by kernel_rfl

theorem law_calls (a0 : Int) (a1 : ByteArray) (A2 : Option Addr) (c2 : Nat) (l2 : List ByteArray) (a3 : Int) (a4 : ByteArray) (a5 : Int) (A6 : Option Addr) (c6 : Nat) (l6 : List G.S37) (w : World)
    (h1 : Kd.C Kd.string w A2 l2.length l2) (h2 : l2.length ≤ c2) (h3 : Kd.C G.k37 w A6 l6.length l6) (h4 : l6.length ≤ c6) :
    Calls Try.prog 3 #[.agg #[.int .i64 a0, .string a1, .slice A2 l2.length c2, .int .i64 a3, .string a4, .int .i64 a5, .slice A6 l6.length c6]] w fun e w' => e = .returned (.bool true) ∧ Below w.heap.size w w' := by
  obtain ⟨k, few, hf, hall⟩ := G.all_told a0 a1 l2 a3 a4 a5 l6
  cases few with
  | false => exact G.walk_no k a0 a1 A2 c2 l2 a3 a4 a5 A6 c6 l6 true w h1 h2 h3 h4 hf rfl
  | true =>
    obtain ⟨b, ⟨r0, r1, r2⟩, ⟨m0, m1⟩, e1, e2, e3, e4, e5, e6, e7⟩ := hall rfl
    exact G.walk_yes k a0 a1 A2 c2 l2 a3 a4 a5 A6 c6 l6 r0 r0 r1 r1 r2 r2 m0 m1 m0 m1 b b true w h1 h2 h3 h4 hf e1 e2 e3 e4 e5 e6 e7 rfl rfl rfl (beq_self_eq_true r2) rfl rfl

set_option maxRecDepth 100000 in
theorem lifted (os : Os) (started : os.Started) (H : Type) (enc : TypeId × Value → H) :
    ReturnsInHanded {} Try.checked os 3 .any (Rows.guardTellsSpec.pre6 enc Try.prog Try.f3 Rows.guardTellsRow.domain false) (Rows.guardTellsSpec.post enc Try.prog Try.f3 false true false false) := by
  refine returnsInHanded_of_change_sized (C := Try.checked) own_ started (by kernel_rfl) Try.func3
    (ChangeSpec.witness6 (enc := enc) (C := Try.checked) false ⟨#[], #[.agg #[.int .i64 0, .string ByteArray.empty, .slice none 0 0, .int .i64 0, .string ByteArray.empty, .int .i64 0, .slice none 0 0]], []⟩ 8 (by kernel_rfl) (by kernel_rfl) (by kernel_rfl) (by kernel_rfl)) ?_
  intro W base args ds gs before hval0 hW hcnd hsz0 _
  have hval : ∀ (j : Nat) t v, Try.f3.params[j]? = some t → args[j]? = some v → Value.okWide Try.prog W .any base t v := hval0
  have hW' := hW
  obtain ⟨p, q, hA0, hV, rfl, hfz, hnd⟩ := hW
  have hA : DataW.TrodAll enc Try.prog W 0 (fun _ => true) true Try.f3.params.toList args.toList ds p := hA0
  rw [Try.params3] at hA hval
  obtain ⟨v0, vs0, d0, ds0, p0, q0, hargs, rfl, rfl, h0, r0⟩ := trodAll_cons hA
  obtain ⟨rfl, rfl, rfl⟩ := trodAll_nil r0
  obtain rfl : args = #[v0] := by cases args; simp_all
  obtain ⟨rfl, rfl⟩ := trodVars_none hV
  obtain ⟨cs, rfl, hcs⟩ := okWide_struct Try.underlying25 (hval 0 25 v0 rfl rfl)
  have k0 := h0
  have lt0 : ∀ x ∈ p0, x.block < W.heap.size := by obtain ⟨m, hm⟩ := k0; exact DataW.trod_lt m _ _ _ hm
  obtain ⟨fuel, hf⟩ := h0
  obtain ⟨a0, a1, A2, c2, l2, a3, a4, a5, A6, c6, l6, he, g1, g2, g3, g4⟩ := G.open_rule hf
  have hcs2 : cs = #[.int .i64 a0, .string a1, .slice A2 l2.length c2, .int .i64 a3, .string a4, .int .i64 a5, .slice A6 l6.length c6] := Array.toList_inj.1 he
  subst hcs2
  clear hA0 hval0 hsz0
  refine (law_calls a0 a1 A2 c2 l2 a3 a4 a5 A6 c6 l6 W g1 g2 g3 g4).mono fun e W' ⟨he, bel⟩ => ?_
  subst he
  exact ⟨_, rfl, _, _, _, [], _, [], hW', trodAll_mk1 (shut_bool Try.underlying4 _), (trodAll_cons_mk (Below.trod laid_ (by kernel_rfl) (of_decide_eq_true (by kernel_rfl)) k0 bel lt0) trodAll_mk0), rfl, bel.frame _, fun h => by cases h⟩

theorem guardTells_holds : Rows.GuardTellsSaid :=
  OpenClaim.holds_of_wide 3 Try.f3 rfl rfl rfl rfl rfl rfl rfl ⟨rfl, rfl, rfl, rfl, rfl⟩ rfl rfl rfl rfl rfl (by kernel_rfl) Try.func3 (by kernel_rfl)
    (of_decide_eq_true (by kernel_rfl)) (by unfold Func.isWrapper; first | (rw [if_pos (by decide +kernel)]; kernel_rfl) | (rw [if_neg (by decide +kernel)]; exact ⟨rfl, rfl⟩))
    (fun os started H enc _ => lifted os started H enc)
#print axioms guardTells_holds
end Go.Proofs.Ytdagpgccjamkmaa
