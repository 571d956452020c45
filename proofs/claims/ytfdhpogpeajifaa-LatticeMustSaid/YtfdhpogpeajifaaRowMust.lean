/- The answer where all edges must agree. -/
import Derived.Test.YtfdhpogpeajifaaRows
import Derived.Test.YtfdhpogpeajifaaOpn
import Derived.Test.YtfdhpogpeajifaaOpnL
import Derived.Test.YtfdhpogpeajifaaLaT
import Derived.WalkKit
import Derived.ProofKit
import Derived.OpenShut
import Derived.ShutString
import Derived.ChangeOld
import Derived.Below
import Derived.SizedLaws
import Derived.Carry
namespace Go.Proofs.Ytfdhpogpeajifaa.latticeMustRow
open Go.ChangeShapes Go.WideShapes Go.ChangeAt Go.RowKit
open Go.ChangeMaps (open_string shut_string)
set_option linter.unusedVariables false
theorem own : ownKnob Try.prog.godebug = none := by kernel_rfl
theorem laid : laidOutB Try.prog = true := by kernel_rfl
set_option maxRecDepth 100000 in
set_option maxHeartbeats 4000000 in
theorem lifted (os : Os) (started : os.Started) (H : Type) (enc : TypeId × Value → H) :
    ReturnsInHanded {} Try.checked os 4 .any (Rows.latticeMustSpec.pre6 enc Try.prog Try.f4 Rows.latticeMustRow.domain false) (Rows.latticeMustSpec.post enc Try.prog Try.f4 false true false false) := by
  refine returnsInHanded_of_change_sized (C := Try.checked) own started (by kernel_rfl) Try.func4
    (ChangeSpec.witness6 (enc := enc) (C := Try.checked) false ⟨#[], #[.slice none 0 0, .slice none 0 0], []⟩ 8 (by kernel_rfl) (by kernel_rfl) (by kernel_rfl) (by kernel_rfl)) ?_
  intro W base args ds gs before hval0 hW hcnd hsz0 _
  have hsz : (DataW.weightsEach Try.prog (Try.f4.params.toList ++ Rows.latticeMustSpec.plain.varTypes Try.prog) (ds ++ gs)).all (· ≤ reachBytes) = true := hsz0
  have hval : ∀ (j : Nat) t v, Try.f4.params[j]? = some t → args[j]? = some v → Value.okWide Try.prog W .any base t v := hval0
  have hW' := hW
  obtain ⟨p, q, hA0, hV, rfl, hfz, hnd⟩ := hW
  have hA : DataW.TrodAll enc Try.prog W 0 (fun _ => true) true Try.f4.params.toList args.toList ds p := hA0
  rw [Try.params4] at hA hval hsz
  obtain ⟨v0, vs0, d0, ds0, p0, q0, hargs, rfl, rfl, h0, r0⟩ := trodAll_cons hA
  obtain ⟨v1, vs1, d1, ds1, p1, q1, rfl, rfl, rfl, h1, r1⟩ := trodAll_cons r0
  obtain ⟨rfl, rfl, rfl⟩ := trodAll_nil r1
  obtain rfl : args = #[v0, v1] := by cases args; simp_all
  obtain ⟨rfl, rfl⟩ := trodVars_none hV
  have hlt : ∀ x ∈ p0 ++ p1, x.block < W.heap.size := fun x hx => by simpa using hW'.lt x (by simpa using hx)
  have hlt0 : ∀ x ∈ p0, x.block < W.heap.size := fun x hx => hlt x (by simp [hx])
  have k0 := h0
  have hlt1 : ∀ x ∈ p1, x.block < W.heap.size := fun x hx => hlt x (by simp [hx])
  have k1 := h1
  have ok0 := hval 0 22 v0 rfl rfl
  have ok1 := hval 1 23 v1 rfl rfl
  clear hA0 hval0 hsz0
  have s0 : ∀ W', Below W.heap.size W W' → _ := fun W' bel => Below.trod laid (t := 22) (by kernel_rfl) (of_decide_eq_true (by kernel_rfl)) k0 bel hlt0
  clear k0
  have s1 : ∀ W', Below W.heap.size W W' → _ := fun W' bel => Below.trod laid (t := 23) (by kernel_rfl) (of_decide_eq_true (by kernel_rfl)) k1 bel hlt1
  clear k1
  obtain ⟨A0, c0, l0, rfl, hc0, hr0, g0⟩ := Opn.arg_slice Try.underlying22 Lat.o22 ok0 h0 (Opn.weight (j := 0) hsz rfl rfl)
  obtain ⟨A1, c1, l1, rfl, hc1, hr1, g1⟩ := Opn.arg_slice Try.underlying23 Lat.o23 ok1 h1 (Opn.weight (j := 1) hsz rfl rfl)
  refine (Lat.must_law _ _ _ hr0 _ _ _ hr1).mono fun e W' ⟨he, bel⟩ => ?_
  subst he
  exact ⟨_, rfl, _, _, _, [], _, [], hW', trodAll_mk1 (shut_bool Try.underlying4 _), (trodAll_cons_mk (s0 W' bel) (trodAll_cons_mk (s1 W' bel) trodAll_mk0)), rfl, bel.frame _, fun h => by cases h⟩
theorem over : Rows.latticeMustRow.holds Try.pinned (OpenSpec.ofChange Rows.latticeMustSpec) :=
  OpenClaim.holds_of_wide 4 Try.f4 rfl rfl rfl rfl rfl rfl rfl ⟨rfl, rfl, rfl, rfl, rfl⟩ rfl rfl rfl rfl rfl (by kernel_rfl) Try.func4 (by kernel_rfl)
    (of_decide_eq_true (by kernel_rfl)) (by unfold Func.isWrapper; first | (rw [if_pos (by decide +kernel)]; kernel_rfl) | (rw [if_neg (by decide +kernel)]; exact ⟨rfl, rfl⟩))
    (fun os started H enc _ => lifted os started H enc)
theorem proved : Rows.LatticeMustSaid := over
#print axioms proved
end Go.Proofs.Ytfdhpogpeajifaa.latticeMustRow
namespace Go.Proofs.Ytfdhpogpeajifaa
/-- The row, under a short name, for the claim. -/
theorem latticeMust_holds : Rows.LatticeMustSaid := latticeMustRow.proved
end Go.Proofs.Ytfdhpogpeajifaa
