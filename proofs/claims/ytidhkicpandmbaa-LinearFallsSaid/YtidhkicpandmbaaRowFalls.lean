/- How many blocks of any row are followed by one of their successors. -/
import Derived.Test.YtidhkicpandmbaaRows
import Derived.Test.YtidhkicpandmbaaOpn
import Derived.Test.YtidhkicpandmbaaOpnF
import Derived.Test.YtidhkicpandmbaaRwK
import Derived.WalkKit
import Derived.ProofKit
import Derived.OpenShut
import Derived.ShutString
import Derived.ChangeOld
import Derived.Below
import Derived.SizedLaws
import Derived.Carry
namespace Go.Proofs.Ytidhkicpandmbaa.linearFallsRow
open Go.ChangeShapes Go.WideShapes Go.ChangeAt Go.RowKit
open Go.ChangeMaps (open_string shut_string)
set_option linter.unusedVariables false
theorem own : ownKnob Try.prog.godebug = none := by kernel_rfl
theorem laid : laidOutB Try.prog = true := by kernel_rfl
set_option maxRecDepth 100000 in
set_option maxHeartbeats 4000000 in
theorem lifted (os : Os) (started : os.Started) (H : Type) (enc : TypeId × Value → H) :
    ReturnsInHanded {} Try.checked os 4 .any (Rows.linearFallsSpec.pre6 enc Try.prog Try.f4 Rows.linearFallsRow.domain false) (Rows.linearFallsSpec.post enc Try.prog Try.f4 false true false false) := by
  refine returnsInHanded_of_change_sized (C := Try.checked) own started (by kernel_rfl) Try.func4
    (ChangeSpec.witness6 (enc := enc) (C := Try.checked) false ⟨#[], #[.agg #[.string ⟨#[]⟩, .int .i64 0, .int .i64 0, .int .i64 0, .slice none 0 0], .slice none 0 0], []⟩ 8 (by kernel_rfl) (by kernel_rfl) (by kernel_rfl) (by kernel_rfl)) ?_
  intro W base args ds gs before hval0 hW hcnd hsz0 _
  have hsz : (DataW.weightsEach Try.prog (Try.f4.params.toList ++ Rows.linearFallsSpec.plain.varTypes Try.prog) (ds ++ gs)).all (· ≤ reachBytes) = true := hsz0
  have hval : ∀ (j : Nat) t v, Try.f4.params[j]? = some t → args[j]? = some v → Value.okWide Try.prog W .any base t v := hval0
  have hW' := hW
  obtain ⟨p, q, hA0, hV, rfl, hfz, hnd⟩ := hW
  have hA : DataW.TrodAll enc Try.prog W 0 (fun _ => true) true Try.f4.params.toList args.toList ds p := hA0
  rw [Try.params4] at hA hval hsz
  obtain ⟨v0, vs0, d0, ds0, p0, q0, hargs, rfl, rfl, h0, r0⟩ := trodAll_cons hA
  obtain ⟨v1, vs1, d1, ds1, p1, q1, rfl, rfl, rfl, h1, r1⟩ := trodAll_cons r0
  obtain ⟨rfl, rfl, rfl⟩ := trodAll_nil r1
  obtain rfl : args = #[v0, v1] := by cases args; simp_all
  obtain ⟨rfl, rfl⟩ := trodVars_none hV
  have hlt : ∀ x ∈ p0 ++ p1, x.block < W.heap.size := fun x hx => by simpa using hW'.lt x (by simpa using hx)
  have hlt0 : ∀ x ∈ p0, x.block < W.heap.size := fun x hx => hlt x (by simp [hx])
  have k0 := h0
  have hlt1 : ∀ x ∈ p1, x.block < W.heap.size := fun x hx => hlt x (by simp [hx])
  have k1 := h1
  have ok0 := hval 0 28 v0 rfl rfl
  have ok1 := hval 1 29 v1 rfl rfl
  clear hA0 hval0 hsz0
  have s0 : ∀ W', Below W.heap.size W W' → _ := fun W' bel => Below.trod laid (t := 28) (by kernel_rfl) (of_decide_eq_true (by kernel_rfl)) k0 bel hlt0
  clear k0
  have s1 : ∀ W', Below W.heap.size W W' → _ := fun W' bel => Below.trod laid (t := 29) (by kernel_rfl) (of_decide_eq_true (by kernel_rfl)) k1 bel hlt1
  clear k1
  obtain ⟨cs0, x0, rfl, hK0, g0⟩ := Opn.arg_struct Try.underlying28 OpnF.o28 ok0 h0 (Opn.weight (j := 0) hsz rfl rfl)
  obtain ⟨A80, c80, rfl, l80, hB0⟩ := GF.k28_open hK0
  obtain ⟨A1, c1, l1, rfl, hc1, hr1, g1⟩ := Opn.arg_slice Try.underlying29 RwB.o29 ok1 h1 (Opn.weight (j := 1) hsz rfl rfl)
  refine (RwB.falls_law _ _ _ _ _ _ _ _ _ _ ⟨fun b hb => RwB.g39_gd (g0.2.2.2.2.2 b hb)⟩ ⟨hB0⟩ ⟨hr1⟩ hc1 g1.1).mono fun e W' ⟨he, bel⟩ => ?_
  subst he
  exact ⟨_, rfl, _, _, _, [], _, [], hW', trodAll_mk1 (shut_bool Try.underlying4 _), (trodAll_cons_mk (s0 W' bel) (trodAll_cons_mk (s1 W' bel) trodAll_mk0)), rfl, bel.frame _, fun h => by cases h⟩
theorem over : Rows.linearFallsRow.holds Try.pinned (OpenSpec.ofChange Rows.linearFallsSpec) :=
  OpenClaim.holds_of_wide 4 Try.f4 rfl rfl rfl rfl rfl rfl rfl ⟨rfl, rfl, rfl, rfl, rfl⟩ rfl rfl rfl rfl rfl (by kernel_rfl) Try.func4 (by kernel_rfl)
    (of_decide_eq_true (by kernel_rfl)) (by unfold Func.isWrapper; first | (rw [if_pos (by decide +kernel)]; kernel_rfl) | (rw [if_neg (by decide +kernel)]; exact ⟨rfl, rfl⟩))
    (fun os started H enc _ => lifted os started H enc)
theorem proved : Rows.LinearFallsSaid := over
#print axioms proved
end Go.Proofs.Ytidhkicpandmbaa.linearFallsRow
namespace Go.Proofs.Ytidhkicpandmbaa
/-- The row, under a short name, for the claim. -/
theorem linearFalls_holds : Rows.LinearFallsSaid := linearFallsRow.proved
end Go.Proofs.Ytidhkicpandmbaa
