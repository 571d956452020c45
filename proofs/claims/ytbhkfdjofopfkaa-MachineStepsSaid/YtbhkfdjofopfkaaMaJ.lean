/- The machine's Step, whatever comes. -/
import Derived.Test.YtbhkfdjofopfkaaMaI1
import Derived.Test.YtbhkfdjofopfkaaMaI2
import Derived.Test.YtbhkfdjofopfkaaMaI3
import Derived.Test.YtbhkfdjofopfkaaMaI4
import Derived.Test.YtbhkfdjofopfkaaMaI5
import Derived.Test.YtbhkfdjofopfkaaMaI6
namespace Go.Proofs.Ytbhkfdjofopfkaa.MemA
open Go.RowKit Go.Proofs.YtbhkfdjofopfkaaW.PrintWords Go.Proofs.YtbhkfdjofopfkaaW.PrintLast
set_option linter.unusedVariables false
set_option linter.unusedSimpArgs false
set_option maxHeartbeats 8000000 in
set_option maxRecDepth 100000 in
theorem st_none {w : World} {base g gm h : Nat} {v : Value} {s : Mc} (m : Aside0 (MW w base g gm h v s)) (he : s.ended = false) (hx : s.fet = none) :
    Calls Try.prog 15 #[PM g] w (StepP g base gm h v true (s.trapK 4) w) := by
  have his := Aside0.mk (is_ m)
  have hfe := Aside0.mk (fetch_none m hx)
  have c26 : w.cell? ⟨g, 26, none⟩ = some (.bool false) := (m.out.c_tl 4).trans (by show some (Value.bool s.ended) = _; rw [he])
  clear he hx
  go_enter Try.func15, Try.ntmps15
  go_upto_region 5 with (first | (go_at_call 31; (with_reducible refine his.out.mono ?_); rintro e w' ⟨rfl, rfl⟩) | (go_at_call 32; (with_reducible refine hfe.out.mono ?_); rintro e w1 ⟨rfl, hb1⟩; replace hb1 := Aside0.mk hb1))
  have hb : Aside0 (Below w.heap.size w (w1.alloc (.cells #[.int .i64 0, .int .i64 0, .int .i64 0, .int .i64 0, .int .i32 0] 67))) := ⟨below_alloc hb1.out _⟩
  generalize w1.alloc (.cells #[.int .i64 0, .int .i64 0, .int .i64 0, .int .i64 0, .int .i32 0] 67) = W at *
  have mW : Aside0 (MW W base g gm h v s) := ⟨m.out.below hb.out⟩
  go_wp2_with (go_at_call 33; (with_reducible refine (trap mW 4).mono ?_); rintro e w3 ⟨rfl, m3, o3⟩; replace m3 := Aside0.mk m3; replace o3 := Aside0.mk o3)
  go_ret
  exact ⟨rfl, v, m3.out, .inl rfl, (Fr.of_below hb.out _).trans ((Fr.of_only o3.out).mono S3.g)⟩
set_option maxHeartbeats 8000000 in
set_option maxRecDepth 100000 in
theorem step_no {w : World} {base g gm h : Nat} {v : Value} {s : Mc} (m : Aside0 (MW w base g gm h v s)) (he : s.ended = true) :
    Calls Try.prog 15 #[PM g] w fun e w' => e = .returned (.bool false) ∧ w = w' := by
  have his := Aside0.mk (is_ m)
  have c26 : w.cell? ⟨g, 26, none⟩ = some (.bool true) := (m.out.c_tl 4).trans (by show some (Value.bool s.ended) = _; rw [he])
  clear he
  go_enter Try.func15, Try.ntmps15
  go_wp2_with (go_at_call 31; (with_reducible refine his.out.mono ?_); rintro e w' ⟨rfl, rfl⟩)
  go_ret
  exact ⟨rfl, rfl⟩
set_option maxHeartbeats 8000000 in
set_option maxRecDepth 100000 in
theorem step_nil {w : World} {p : Value} (hi : Aside0 (Calls Try.prog 31 #[p] w fun e w' => e = .returned (.bool false) ∧ w = w')) : Calls Try.prog 15 #[p] w fun e w' => e = .returned (.bool false) ∧ w = w' := by
  go_enter Try.func15, Try.ntmps15
  go_wp2_with (go_at_call 31; (with_reducible refine hi.out.mono ?_); rintro e w' ⟨rfl, rfl⟩)
  go_ret
  exact ⟨rfl, rfl⟩
theorem Mc.step_eq {s : Mc} (he : s.ended = false) {x : In} (hx : s.fet = some x) : s.step = s.exec x := by unfold Mc.step; rw [he, hx]; rfl
theorem fet_ok {s : Mc} (h : s.Ok) {x : In} (hx : s.fet = some x) : x.Ok := by
  obtain ⟨h1, h2⟩ := Mc.fet_on hx
  obtain ⟨c0, c1⟩ := cw_bd s.code s.pc.toNat
  exact (dcd_out _ c0 c1).1 x h2
theorem step_yes {w : World} {base g gm h : Nat} {v : Value} {s : Mc} (m : MW w base g gm h v s) (he : s.ended = false) (hbs : base ≤ w.heap.size) (hol : s.out.length < 1099511627776) :
    Calls Try.prog 15 #[PM g] w (StepP g base gm h v true s.step w) := by
  cases hx : s.fet with
  | none =>
    have e : s.step = s.trapK 4 := by unfold Mc.step; rw [he, hx]; rfl
    rw [e]
    exact st_none ⟨m⟩ he hx
  | some x =>
    have hk := fet_ok m.ok hx
    rw [Mc.step_eq he hx]
    obtain ⟨op, d, a, b, i⟩ := x
    rcases hk.op with h1 | h1
    · exact st_alu ⟨m⟩ h1.1 h1.2 he hx hk hol
    · have : op = 32 ∨ op = 33 ∨ op = 34 ∨ op = 35 ∨ op = 36 ∨ op = 37 ∨ op = 38 ∨ op = 39 ∨ op = 40 ∨ op = 41 ∨ op = 42 ∨ op = 43 ∨ op = 44 ∨ op = 45 ∨ op = 46 ∨ op = 47 := by
        have h2 : 32 ≤ op ∧ op ≤ 47 := h1
        omega
      rcases this with rfl | rfl | rfl | rfl | rfl | rfl | rfl | rfl | rfl | rfl | rfl | rfl | rfl | rfl | rfl | rfl
      · exact st_32 ⟨m⟩ he hx hk hol
      · exact st_33 ⟨m⟩ he hx hk hol
      · exact st_34 ⟨m⟩ he hx hk hol
      · exact st_l4 ⟨m⟩ he hx hk hol
      · exact st_l1 ⟨m⟩ he hx hk hol
      · exact st_s4 ⟨m⟩ he hx hk hol
      · exact st_s1 ⟨m⟩ he hx hk hol
      · exact st_39 ⟨m⟩ he hx hk hol
      · exact st_40 ⟨m⟩ he hx hk hol
      · exact st_41 ⟨m⟩ he hx hk hol
      · exact st_42 ⟨m⟩ he hx hk hol
      · exact st_43 ⟨m⟩ he hx hk hol
      · exact st_44 ⟨m⟩ he hx hk hol
      · exact st_45 ⟨m⟩ hbs he hx hk hol
      · exact st_46 ⟨m⟩ he hx hk hol
      · exact st_47 ⟨m⟩ he hx hk hol
end Go.Proofs.Ytbhkfdjofopfkaa.MemA
