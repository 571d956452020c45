/- Labels' numbers do not matter, where what it reads is not too much. -/
import Derived.Test.YtdhmnjoceeolcaaRows
import Derived.Test.YtdhmnjoceeolcaaOpnU
import Derived.Test.YtdhmnjoceeolcaaOpnF
import Derived.Test.YtdhmnjoceeolcaaAsN
import Derived.WalkKit
import Derived.ProofKit
import Derived.OpenShut
import Derived.ShutString
import Derived.ChangeOld
import Derived.Below
import Derived.SizedLaws
import Derived.Carry
import Derived.JoinedCond
namespace Go.Proofs.Ytdhmnjoceeolcaa.asmNamesUptoRow
open Go.ChangeShapes Go.WideShapes Go.ChangeAt Go.RowKit
open Go.ChangeMaps (open_string shut_string)
set_option linter.unusedVariables false
theorem own : ownKnob Try.prog.godebug = none := by kernel_rfl
theorem laid : laidOutB Try.prog = true := by kernel_rfl
set_option maxRecDepth 100000 in
set_option maxHeartbeats 4000000 in
theorem lifted (os : Os) (started : os.Started) (H : Type) (enc : TypeId × Value → H) (F : Stop.Interp) :
    ReturnsInHanded {} Try.checked os 4 .any ((Rows.OpenSpec.upto Rows.asmNamesSpec).pre6 enc Try.prog Try.f4 Rows.asmNamesUptoRow.domain false) (((Rows.OpenSpec.upto Rows.asmNamesSpec).at F).post enc Try.prog Try.f4 false true false false) := by
  refine returnsInHanded_of_cond (C := Try.checked) (s := Rows.OpenSpec.upto Rows.asmNamesSpec) (k := Rows.uptoSmall) rfl own started (by kernel_rfl) Try.func4
    (OpenSpec.witness (enc := enc) (C := Try.checked) (s := Rows.OpenSpec.upto Rows.asmNamesSpec) (k := Rows.uptoSmall) rfl false ⟨#[], #[.agg #[.slice none 0 0, .int .i64 0, .int .i64 0, .int .i64 0, .int .i64 0, .int .i32 0, .int .i64 0, .slice none 0 0], .int .u16 0], []⟩ 8 (by kernel_rfl) (by kernel_rfl) (by kernel_rfl)
      (x := ([.agg [.nil, .agg [.lit (.int .i64 0), .lit (.int .i64 0), .lit (.int .i64 0), .lit (.int .i64 0), .lit (.int .i32 0)], .lit (.int .i64 0), .nil], .lit (.int .u16 0)], [], [])) (by kernel_rfl) rfl (by kernel_rfl)) ?_
  intro W base args ds gs before hval0 hW _ hk _
  have hsz : (DataW.weightsEach Try.prog (Try.f4.params.toList ++ Rows.asmNamesSpec.plain.varTypes Try.prog) (ds ++ gs)).all (· ≤ Asm.capB) = true := Asm.small (by kernel_rfl) hk
  have hval : ∀ (j : Nat) t v, Try.f4.params[j]? = some t → args[j]? = some v → Value.okWide Try.prog W .any base t v := hval0
  have hW' := hW
  obtain ⟨p, q, hA0, hV, rfl, hfz, hnd⟩ := hW
  have hA : DataW.TrodAll enc Try.prog W 0 (fun _ => true) true Try.f4.params.toList args.toList ds p := hA0
  rw [Try.params4] at hA hval hsz
  obtain ⟨v0, vs0, d0, ds0, p0, q0, hargs, rfl, rfl, h0, r0⟩ := trodAll_cons hA
  obtain ⟨v1, vs1, d1, ds1, p1, q1, rfl, rfl, rfl, h1, r1⟩ := trodAll_cons r0
  obtain ⟨rfl, rfl, rfl⟩ := trodAll_nil r1
  obtain rfl : args = #[v0, v1] := by cases args; simp_all
  obtain ⟨rfl, rfl⟩ := trodVars_none hV
  have hlt : ∀ x ∈ p0 ++ p1, x.block < W.heap.size := fun x hx => by simpa using hW'.lt x (by simpa using hx)
  have hlt0 : ∀ x ∈ p0, x.block < W.heap.size := fun x hx => hlt x (by simp [hx])
  have k0 := h0
  have hlt1 : ∀ x ∈ p1, x.block < W.heap.size := fun x hx => hlt x (by simp [hx])
  have k1 := h1
  have ok0 := hval 0 26 v0 rfl rfl
  have ok1 := hval 1 35 v1 rfl rfl
  clear hA0 hval0
  have s0 : ∀ W', Below W.heap.size W W' → _ := fun W' bel => Below.trod laid (t := 26) (by kernel_rfl) (of_decide_eq_true (by kernel_rfl)) k0 bel hlt0
  clear k0
  have s1 : ∀ W', Below W.heap.size W W' → _ := fun W' bel => Below.trod laid (t := 35) (by kernel_rfl) (of_decide_eq_true (by kernel_rfl)) k1 bel hlt1
  clear k1
  obtain ⟨cs0, x0, rfl, hK0, g0⟩ := Opn.arg_struct Try.underlying26 OpnF.o26 ok0 h0 (Opn.weight (j := 0) hsz rfl rfl)
  obtain ⟨A0, c0, B0, e0, rfl, lA0, hA0, lB0, hB0⟩ := OpnF.k26_open hK0
  have gb0 : x0.f0.length + x0.f3.length ≤ 38347922 := by have h1 := g0.1.1; have h2 := g0.2.2.2.1; omega
  obtain ⟨n1, rfl, i1⟩ := Opn.arg_int Try.underlying35 ok1 h1
  have b1 := Opn.u16 i1
  refine ((have hx := Asm.names_some x0.f0 x0.f3 x0.f1.f0 x0.f1.f1 x0.f1.f2 x0.f1.f3 x0.f1.f4 x0.f2 n1 b1.1 b1.2 gb0; GF.cruciblelaw06_AsmNames.calls hx.choose A0 c0 x0.f0 _ _ _ _ _ _ B0 e0 x0.f3 n1 true W hA0 lA0 hB0 lB0 hx.choose_spec)).mono fun e W' ⟨he, bel⟩ => ?_
  subst he
  exact ⟨_, rfl, _, _, _, [], _, [], hW', trodAll_mk1 (shut_bool Try.underlying4 _), (trodAll_cons_mk (s0 W' bel) (trodAll_cons_mk (s1 W' bel) trodAll_mk0)), rfl, bel.frame _, fun h => by cases h⟩
theorem proved : Rows.AsmNamesUptoSaid :=
  OpenClaim.holds_of_cond 4 Try.f4 rfl rfl rfl rfl rfl rfl rfl ⟨rfl, rfl, rfl, rfl, rfl⟩ rfl rfl rfl rfl rfl (by kernel_rfl) Try.func4 (by kernel_rfl)
    (of_decide_eq_true (by kernel_rfl)) (by unfold Func.isWrapper; first | (rw [if_pos (by decide +kernel)]; kernel_rfl) | (rw [if_neg (by decide +kernel)]; exact ⟨rfl, rfl⟩))
    (fun os started H enc _ F => lifted os started H enc F)
#print axioms proved
end Go.Proofs.Ytdhmnjoceeolcaa.asmNamesUptoRow
namespace Go.Proofs.Ytdhmnjoceeolcaa
/-- The row, under a short name, for the claim. -/
theorem asmNames_holds : Rows.AsmNamesUptoSaid := asmNamesUptoRow.proved
end Go.Proofs.Ytdhmnjoceeolcaa
