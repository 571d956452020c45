/- Which functions may be in a program. -/
import Derived.Test.YtobikiffjanagaaRows
import Derived.Test.YtobikiffjanagaaOpn
import Derived.Test.YtobikiffjanagaaOpnF
import Derived.Test.YtobikiffjanagaaIrR
import Derived.WalkKit
import Derived.ProofKit
import Derived.OpenShut
import Derived.ShutString
import Derived.ChangeOld
import Derived.Below
import Derived.SizedLaws
import Derived.Carry
namespace Go.Proofs.Ytobikiffjanagaa.irFuncsRow
open Go.ChangeShapes Go.WideShapes Go.ChangeAt Go.RowKit
open Go.ChangeMaps (open_string shut_string)
set_option linter.unusedVariables false
theorem own : ownKnob Try.prog.godebug = none := by kernel_rfl
theorem laid : laidOutB Try.prog = true := by kernel_rfl
set_option maxRecDepth 100000 in
set_option maxHeartbeats 4000000 in
theorem lifted (os : Os) (started : os.Started) (H : Type) (enc : TypeId × Value → H) :
    ReturnsInHanded {} Try.checked os 4 .any (Rows.irFuncsSpec.pre6 enc Try.prog Try.f4 Rows.irFuncsRow.domain false) (Rows.irFuncsSpec.post enc Try.prog Try.f4 false true false false) := by
  refine returnsInHanded_of_change_sized (C := Try.checked) own started (by kernel_rfl) Try.func4
    (ChangeSpec.witness6 (enc := enc) (C := Try.checked) false ⟨#[], #[.agg #[.slice none 0 0, .int .i64 0, .slice none 0 0, .int .i64 0], .agg #[.string ⟨#[]⟩, .int .i64 0, .int .i64 0, .int .i64 0, .slice none 0 0]], []⟩ 8 (by kernel_rfl) (by kernel_rfl) (by kernel_rfl) (by kernel_rfl)) ?_
  intro W base args ds gs before hval0 hW hcnd hsz0 _
  have hsz : (DataW.weightsEach Try.prog (Try.f4.params.toList ++ Rows.irFuncsSpec.plain.varTypes Try.prog) (ds ++ gs)).all (· ≤ reachBytes) = true := hsz0
  have hval : ∀ (j : Nat) t v, Try.f4.params[j]? = some t → args[j]? = some v → Value.okWide Try.prog W .any base t v := hval0
  have hW' := hW
  obtain ⟨p, q, hA0, hV, rfl, hfz, hnd⟩ := hW
  have hA : DataW.TrodAll enc Try.prog W 0 (fun _ => true) true Try.f4.params.toList args.toList ds p := hA0
  rw [Try.params4] at hA hval hsz
  obtain ⟨v0, vs0, d0, ds0, p0, q0, hargs, rfl, rfl, h0, r0⟩ := trodAll_cons hA
  obtain ⟨v1, vs1, d1, ds1, p1, q1, rfl, rfl, rfl, h1, r1⟩ := trodAll_cons r0
  obtain ⟨rfl, rfl, rfl⟩ := trodAll_nil r1
  obtain rfl : args = #[v0, v1] := by cases args; simp_all
  obtain ⟨rfl, rfl⟩ := trodVars_none hV
  have hlt : ∀ x ∈ p0 ++ p1, x.block < W.heap.size := fun x hx => by simpa using hW'.lt x (by simpa using hx)
  have hlt0 : ∀ x ∈ p0, x.block < W.heap.size := fun x hx => hlt x (by simp [hx])
  have k0 := h0
  have hlt1 : ∀ x ∈ p1, x.block < W.heap.size := fun x hx => hlt x (by simp [hx])
  have k1 := h1
  have ok0 := hval 0 25 v0 rfl rfl
  have ok1 := hval 1 33 v1 rfl rfl
  clear hA0 hval0 hsz0
  have s0 : ∀ W', Below W.heap.size W W' → _ := fun W' bel => Below.trod laid (t := 25) (by kernel_rfl) (of_decide_eq_true (by kernel_rfl)) k0 bel hlt0
  clear k0
  have s1 : ∀ W', Below W.heap.size W W' → _ := fun W' bel => Below.trod laid (t := 33) (by kernel_rfl) (of_decide_eq_true (by kernel_rfl)) k1 bel hlt1
  clear k1
  obtain ⟨cs0, x0, rfl, hK0, g0⟩ := Opn.arg_struct Try.underlying25 IrA.o25 ok0 h0 (Opn.weight (j := 0) hsz rfl rfl)
  obtain ⟨A0, c0, A2, c2, rfl, hC0, hD0⟩ := IrA.k25_open hK0
  obtain ⟨cs1, x1, rfl, hK1, g1⟩ := Opn.arg_struct Try.underlying33 OpnF.o33 ok1 h1 (Opn.weight (j := 1) hsz rfl rfl)
  obtain ⟨A81, c81, rfl, l81, hB1⟩ := GF.k33_open hK1
  refine (IrA.funcs_law ⟨fun b hb => IrA.g58_gd (g1.2.2.2.2.2 b hb)⟩ ⟨hC0⟩ ⟨hB1⟩).mono fun e W' ⟨he, bel⟩ => ?_
  subst he
  exact ⟨_, rfl, _, _, _, [], _, [], hW', trodAll_mk1 (shut_bool Try.underlying4 _), (trodAll_cons_mk (s0 W' bel) (trodAll_cons_mk (s1 W' bel) trodAll_mk0)), rfl, bel.frame _, fun h => by cases h⟩
theorem over : Rows.irFuncsRow.holds Try.pinned (OpenSpec.ofChange Rows.irFuncsSpec) :=
  OpenClaim.holds_of_wide 4 Try.f4 rfl rfl rfl rfl rfl rfl rfl ⟨rfl, rfl, rfl, rfl, rfl⟩ rfl rfl rfl rfl rfl (by kernel_rfl) Try.func4 (by kernel_rfl)
    (of_decide_eq_true (by kernel_rfl)) (by unfold Func.isWrapper; first | (rw [if_pos (by decide +kernel)]; kernel_rfl) | (rw [if_neg (by decide +kernel)]; exact ⟨rfl, rfl⟩))
    (fun os started H enc _ => lifted os started H enc)
theorem proved : Rows.IrFuncsSaid := over
#print axioms proved
end Go.Proofs.Ytobikiffjanagaa.irFuncsRow
namespace Go.Proofs.Ytobikiffjanagaa
/-- The row, under a short name, for the claim. -/
theorem irFuncs_holds : Rows.IrFuncsSaid := irFuncsRow.proved
end Go.Proofs.Ytobikiffjanagaa
