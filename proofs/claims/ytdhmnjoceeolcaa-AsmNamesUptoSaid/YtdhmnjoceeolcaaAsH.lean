/- asm.Place: its answer, and its walk. -/
import Derived.Test.YtdhmnjoceeolcaaAsG
namespace Go.Proofs.Ytdhmnjoceeolcaa.Asm
open Go.RowKit Go.Proofs.YtdhmnjoceeolcaaW.PrintWords Go.Proofs.YtdhmnjoceeolcaaW.PrintLast Go.Proofs.YtdhmnjoceeolcaaW.PrintMore Go.Proofs.Ytdhmnjoceeolcaa.GF
set_option linter.unusedVariables false
set_option linter.unusedSimpArgs false
/-- Where a label stands in the code. -/
def placeV (l : List S37) (k : Int) : Int × Int :=
  if (asmV l).2 = 0 then (match whO l (settle l) l.length k with | none => (0, 4) | some x => (4 * x, 0)) else (0, (asmV l).2)
theorem asmV_ok (l : List S37) (h : (asmV l).2 = 0) : checkV l = 0 ∧ 4 * atV l (settle l) l.length ≤ 1048576 := by
  unfold asmV at h
  by_cases h1 : checkV l = 0
  · rw [if_pos h1] at h
    by_cases h2 : 1048576 < 4 * atV l (settle l) l.length
    · rw [if_pos h2] at h; exact absurd h (by decide)
    · exact ⟨h1, by omega⟩
  · rw [if_neg h1] at h; exact absurd h h1
set_option maxHeartbeats 16000000 in
set_option maxRecDepth 100000 in
theorem Place_calls {w : World} {A : Option Addr} {l : List S37} {c : Nat} (k : Int) (hL : Aside0 (Kd.C k37 w A l.length l)) :
    Calls Try.prog 14 #[.slice A l.length c, .int .i64 k] w fun e w' => e = .returned (.tuple #[.int .i64 (placeV l k).1, .int .i64 (placeV l k).2]) ∧ Below w.heap.size w w' := by
  have hck := assemble_calls (c := c) hL
  have hpv : Aside0 (placeV l k = if (asmV l).2 = 0 then (match whO l (settle l) l.length k with | none => (0, 4) | some x => (4 * x, 0)) else (0, (asmV l).2)) := ⟨rfl⟩
  have hlen := asmV_ok l
  obtain ⟨av, hav⟩ : ∃ av, asmV l = av := ⟨_, rfl⟩
  rw [hav] at hck hpv hlen
  clear hav
  obtain ⟨s, cd⟩ := av
  simp only at hck hpv hlen
  by_cases hc : cd = 0
  · subst hc
    rw [if_pos rfl] at hpv
    have hl2 := check_len l (hlen rfl).1
    clear hlen
    have hr := whO_range l (settle l) k l.length
    go_enter Try.func14, Try.ntmps14
    go_upto_region 5 with (first | (go_at_call 8; (with_reducible refine hck.mono ?_); rintro e w1 ⟨rfl, hb1⟩; replace hb1 := Aside0.mk hb1) | (go_at_call 17; (with_reducible refine (laid_calls ⟨Kd.C_below hL.out hb1.out⟩ hl2).mono ?_); rintro e w5 ⟨p, ga, gl, m, es, rfl, hY, hes, hb5⟩))
    have y2 := (blk_cell hY.out.bp 2).trans (show _ = some (.map (some m)) from rfl)
    have hlk := lookok hY.out.mp k
    rw [hes.out] at hlk
    clear hck
    generalize whO l (settle l) l.length k = o at *
    cases o with
    | none =>
      simp only [Option.getD_none, Option.isSome_none] at hlk
      go_wp2_with fail
      go_ret2
      exact ⟨by rw [hpv.out]; rfl, below_step hb1.out hb5.out⟩
    | some x =>
      simp only [Option.getD_some, Option.isSome_some] at hlk hr
      have hw4 : IntKind.i64.wrap (4 * x) = 4 * x := IntWalk.i64_in _ (by omega)
      go_wp2_with fail
      go_ret2
      exact ⟨by rw [hpv.out]; rfl, below_step hb1.out hb5.out⟩
  · rw [if_neg hc] at hpv
    clear hlen
    have hne : (cd != 0) = true := by simpa using hc
    replace hc := Aside0.mk hc
    go_enter Try.func14, Try.ntmps14
    go_wp2_with (go_at_call 8; (with_reducible refine hck.mono ?_); rintro e w1 ⟨rfl, hb1⟩; replace hb1 := Aside0.mk hb1)
    go_ret2
    exact ⟨by rw [hpv.out]; rfl, hb1.out⟩
end Go.Proofs.Ytdhmnjoceeolcaa.Asm
