/- Texts laid together for a claim. -/
import Derived.Outline
import Derived.MapKept
import Derived.Maps.OwnSet
import Derived.Deep.RegionHeld3
import Derived.OpenShut
import Derived.Laws.BitsAllLaws
import Derived.WalkKit
import Derived.KernelRfl
import Derived.WalkSpells
import Derived.Deep.QuietTactic
import Derived.BigQuiet
import Derived.StillTailTactics
import Derived.Lib.Hide
import Derived.Test.YtdhmnjoceeolcaaPc1
section
namespace Go.Proofs.Ytdhmnjoceeolcaa.GF
open Go.RowKit Go.Proofs.YtdhmnjoceeolcaaW.PrintWords Go.Proofs.YtdhmnjoceeolcaaW.PrintLast Go.Proofs.YtdhmnjoceeolcaaW.PrintMore
attribute [local go_sem] max2_int min2_int max_two min_two max_three min_three max_four min_four   -- for this text's walks alone
set_option linter.unusedVariables false
set_option linter.unusedSimpArgs false
attribute [local go_sem high] eqA24
def isa_Check.f (k : Nat) (a0_0 : Int) (a0_1 : Int) (a0_2 : Int) (a0_3 : Int) (a0_4 : Int) : Option (Int) := (isa_parts.f k a0_0).bind fun t112 => (if t112 = 0 then (some 1) else ((isa_register.f a0_1 ((Go.bits .and .i64 t112 1) != 0)).bind fun t113 => (if t113 = true then ((isa_register.f a0_2 ((Go.bits .and .i64 t112 2) != 0)).bind fun t114 => (if t114 = true then ((isa_register.f a0_3 ((Go.bits .and .i64 t112 4) != 0)).bind fun t115 => (if t115 = true then ((isa_within.f a0_4 t112).bind fun t116 => (if t116 = true then (some 0) else (some 1))) else (some 1))) else (some 1))) else (some 1))))
set_option maxHeartbeats 8000000 in
set_option maxRecDepth 100000 in
theorem isa_Check.calls (k : Nat) (a0_0 : Int) (a0_1 : Int) (a0_2 : Int) (a0_3 : Int) (a0_4 : Int) (r : Int) (w : World) (h : isa_Check.f k a0_0 a0_1 a0_2 a0_3 a0_4 = some r) :
    Calls Try.prog 29 #[.agg #[.int .i64 a0_0, .int .i64 a0_1, .int .i64 a0_2, .int .i64 a0_3, .int .i32 a0_4]] w fun e w' => e = .returned (.int .i64 r) ∧ Below w.heap.size w w' := by
  have hu24 := Try.underlying24
  have HB := Aside0.mk (Below.refl w.heap.size w)
  have H : ((isa_parts.f k a0_0).bind fun t112 => (if t112 = 0 then (some 1) else ((isa_register.f a0_1 ((Go.bits .and .i64 t112 1) != 0)).bind fun t113 => (if t113 = true then ((isa_register.f a0_2 ((Go.bits .and .i64 t112 2) != 0)).bind fun t114 => (if t114 = true then ((isa_register.f a0_3 ((Go.bits .and .i64 t112 4) != 0)).bind fun t115 => (if t115 = true then ((isa_within.f a0_4 t112).bind fun t116 => (if t116 = true then (some 0) else (some 1))) else (some 1))) else (some 1))) else (some 1))))) = some r := h
  clear h
  replace H := Option.bind_eq_some_iff.mp H
  obtain ⟨t112, A20, H⟩ := H
  replace H : (if t112 = 0 then (some 1) else ((isa_register.f a0_1 ((Go.bits .and .i64 t112 1) != 0)).bind fun t113 => (if t113 = true then ((isa_register.f a0_2 ((Go.bits .and .i64 t112 2) != 0)).bind fun t114 => (if t114 = true then ((isa_register.f a0_3 ((Go.bits .and .i64 t112 4) != 0)).bind fun t115 => (if t115 = true then ((isa_within.f a0_4 t112).bind fun t116 => (if t116 = true then (some 0) else (some 1))) else (some 1))) else (some 1))) else (some 1)))) = some r := H
  have A2 := Aside0.mk A20
  clear A20
  by_cases c3 : t112 = 0
  · rw [if_pos c3] at H
    have c3b0 : (t112 == 0) = true := beq_iff_eq.mpr c3
    have c3b1 : (t112 != 0) = false := bne_eq_false_iff_eq.mpr c3
    clear c3
    obtain rfl := Option.some.inj H
    go_enter Try.func29, Try.ntmps29
    go_wp2_with (first | ((with_reducible refine gate_dst (N := 1) rfl ?_); refine box_event ?hg (N := 1) ?hd (cs := #[.int .i64 a0_0, .int .i64 a0_1, .int .i64 a0_2, .int .i64 a0_3, .int .i32 a0_4]) (t := 24) ?hr ?_; (case hd => rfl); (case hg => rfl); (case hr => first | (go_simp; done) | (go_simp; rfl)); intro gb111 hg w4 hbox hb; have n0_ := Aside0.mk (below_step (by repeat (first | (with_reducible first | exact HB.out | apply below_alloc | apply pw_below_drewN | apply below_drew1) | exact HB.out)) hb); have n1_ := Aside0.mk (hbox); have n2_ := Aside0.mk ((by rw [hg]; exact (below_size (by repeat (first | (with_reducible first | exact HB.out | apply below_alloc | apply pw_below_drewN | apply below_drew1) | exact HB.out))) : w.heap.size ≤ gb111)); have n3_ := Aside0.mk ((by rw [hg]; exact (below_size (by repeat (first | (with_reducible first | exact HB.out | apply below_alloc | apply pw_below_drewN | apply below_drew1) | exact HB.out))) : w.heap.size ≤ gb111)); clear HB; have HB := n0_; have BK111 := n1_; have GW111 := n2_; have GE111 := n3_; clear n0_ n1_ n2_ n3_; clear hb hbox hg; have hcz5_0 : w4.cell? ⟨gb111, 0, none⟩ = some (.int .i64 a0_0) := (blk_cell BK111.out 0).trans rfl; have hcz5_1 : w4.cell? ⟨gb111, 1, none⟩ = some (.int .i64 a0_1) := (blk_cell BK111.out 1).trans rfl; have hcz5_2 : w4.cell? ⟨gb111, 2, none⟩ = some (.int .i64 a0_2) := (blk_cell BK111.out 2).trans rfl; have hcz5_3 : w4.cell? ⟨gb111, 3, none⟩ = some (.int .i64 a0_3) := (blk_cell BK111.out 3).trans rfl; have hcz5_4 : w4.cell? ⟨gb111, 4, none⟩ = some (.int .i32 a0_4) := (blk_cell BK111.out 4).trans rfl; have hfz5_0 := blk_frozen BK111.out 0; have hfz5_1 := blk_frozen BK111.out 1; have hfz5_2 := blk_frozen BK111.out 2; have hfz5_3 := blk_frozen BK111.out 3; have hfz5_4 := blk_frozen BK111.out 4) | ((with_reducible refine gate_callee (f := 30) rfl ?_); refine goesL_ (some 6) rfl rfl Try.func30 (by kernel_rfl) rfl #[.int .i64 a0_0] rfl (by (try simp only [List.map_toArray, List.map_cons, List.map_nil]); first | done | rfl | (simp only [List.length_drop, List.length_take]; rfl)) ?_; (with_reducible refine (isa_parts.calls k a0_0 t112 _ A2.out).mono ?_); rintro e w' ⟨rfl, ⟨nd, rfl⟩⟩; refine ⟨_, rfl, ?_⟩))
    go_ret
    exact ⟨by first | rfl | (simp [errW_none, errW_some] <;> rfl) | (simp [*, errW_none, errW_some] <;> rfl), by repeat (first | (with_reducible first | exact HB.out | apply below_alloc | apply pw_below_drewN | apply below_drew1 | refine below_set ?_ GE111.out) | exact HB.out)⟩
  · rw [if_neg c3] at H
    have c3b0 : (t112 == 0) = false := beq_eq_false_iff_ne.mpr c3
    have c3b1 : (t112 != 0) = true := bne_iff_ne.mpr c3
    replace H := Option.bind_eq_some_iff.mp H
    obtain ⟨t113, A60, H⟩ := H
    replace H : (if t113 = true then ((isa_register.f a0_2 ((Go.bits .and .i64 t112 2) != 0)).bind fun t114 => (if t114 = true then ((isa_register.f a0_3 ((Go.bits .and .i64 t112 4) != 0)).bind fun t115 => (if t115 = true then ((isa_within.f a0_4 t112).bind fun t116 => (if t116 = true then (some 0) else (some 1))) else (some 1))) else (some 1))) else (some 1)) = some r := H
    have A6 := Aside0.mk A60
    clear A60
    by_cases c7 : t113 = true
    · subst c7
      have H1 : ((isa_register.f a0_2 ((Go.bits .and .i64 t112 2) != 0)).bind fun t114 => (if t114 = true then ((isa_register.f a0_3 ((Go.bits .and .i64 t112 4) != 0)).bind fun t115 => (if t115 = true then ((isa_within.f a0_4 t112).bind fun t116 => (if t116 = true then (some 0) else (some 1))) else (some 1))) else (some 1))) = some r := by rw [if_pos rfl] at H; exact H
      clear H
      have H := H1
      clear H1
      replace H := Option.bind_eq_some_iff.mp H
      obtain ⟨t114, A80, H⟩ := H
      replace H : (if t114 = true then ((isa_register.f a0_3 ((Go.bits .and .i64 t112 4) != 0)).bind fun t115 => (if t115 = true then ((isa_within.f a0_4 t112).bind fun t116 => (if t116 = true then (some 0) else (some 1))) else (some 1))) else (some 1)) = some r := H
      have A8 := Aside0.mk A80
      clear A80
      by_cases c9 : t114 = true
      · subst c9
        have H1 : ((isa_register.f a0_3 ((Go.bits .and .i64 t112 4) != 0)).bind fun t115 => (if t115 = true then ((isa_within.f a0_4 t112).bind fun t116 => (if t116 = true then (some 0) else (some 1))) else (some 1))) = some r := by rw [if_pos rfl] at H; exact H
        clear H
        have H := H1
        clear H1
        replace H := Option.bind_eq_some_iff.mp H
        obtain ⟨t115, A100, H⟩ := H
        replace H : (if t115 = true then ((isa_within.f a0_4 t112).bind fun t116 => (if t116 = true then (some 0) else (some 1))) else (some 1)) = some r := H
        have A10 := Aside0.mk A100
        clear A100
        by_cases c11 : t115 = true
        · subst c11
          have H1 : ((isa_within.f a0_4 t112).bind fun t116 => (if t116 = true then (some 0) else (some 1))) = some r := by rw [if_pos rfl] at H; exact H
          clear H
          have H := H1
          clear H1
          replace H := Option.bind_eq_some_iff.mp H
          obtain ⟨t116, A120, H⟩ := H
          replace H : (if t116 = true then (some 0) else (some 1)) = some r := H
          have A12 := Aside0.mk A120
          clear A120
          by_cases c13 : t116 = true
          · subst c13
            have H1 : (some 0) = some r := by rw [if_pos rfl] at H; exact H
            clear H
            have H := H1
            clear H1
            obtain rfl := Option.some.inj H
            go_enter Try.func29, Try.ntmps29
            go_wp2_with (first | ((with_reducible refine gate_dst (N := 1) rfl ?_); refine box_event ?hg (N := 1) ?hd (cs := #[.int .i64 a0_0, .int .i64 a0_1, .int .i64 a0_2, .int .i64 a0_3, .int .i32 a0_4]) (t := 24) ?hr ?_; (case hd => rfl); (case hg => rfl); (case hr => first | (go_simp; done) | (go_simp; rfl)); intro gb111 hg w14 hbox hb; have n0_ := Aside0.mk (below_step (by repeat (first | (with_reducible first | exact HB.out | apply below_alloc | apply pw_below_drewN | apply below_drew1) | exact HB.out)) hb); have n1_ := Aside0.mk (hbox); have n2_ := Aside0.mk ((by rw [hg]; exact (below_size (by repeat (first | (with_reducible first | exact HB.out | apply below_alloc | apply pw_below_drewN | apply below_drew1) | exact HB.out))) : w.heap.size ≤ gb111)); have n3_ := Aside0.mk ((by rw [hg]; exact (below_size (by repeat (first | (with_reducible first | exact HB.out | apply below_alloc | apply pw_below_drewN | apply below_drew1) | exact HB.out))) : w.heap.size ≤ gb111)); clear HB; have HB := n0_; have BK111 := n1_; have GW111 := n2_; have GE111 := n3_; clear n0_ n1_ n2_ n3_; clear hb hbox hg; have hcz15_0 : w14.cell? ⟨gb111, 0, none⟩ = some (.int .i64 a0_0) := (blk_cell BK111.out 0).trans rfl; have hcz15_1 : w14.cell? ⟨gb111, 1, none⟩ = some (.int .i64 a0_1) := (blk_cell BK111.out 1).trans rfl; have hcz15_2 : w14.cell? ⟨gb111, 2, none⟩ = some (.int .i64 a0_2) := (blk_cell BK111.out 2).trans rfl; have hcz15_3 : w14.cell? ⟨gb111, 3, none⟩ = some (.int .i64 a0_3) := (blk_cell BK111.out 3).trans rfl; have hcz15_4 : w14.cell? ⟨gb111, 4, none⟩ = some (.int .i32 a0_4) := (blk_cell BK111.out 4).trans rfl; have hfz15_0 := blk_frozen BK111.out 0; have hfz15_1 := blk_frozen BK111.out 1; have hfz15_2 := blk_frozen BK111.out 2; have hfz15_3 := blk_frozen BK111.out 3; have hfz15_4 := blk_frozen BK111.out 4) | ((with_reducible refine gate_callee (f := 30) rfl ?_); refine goesL_ (some 6) rfl rfl Try.func30 (by kernel_rfl) rfl #[.int .i64 a0_0] rfl (by (try simp only [List.map_toArray, List.map_cons, List.map_nil]); first | done | rfl | (simp only [List.length_drop, List.length_take]; rfl)) ?_; (with_reducible refine (isa_parts.calls k a0_0 t112 _ A2.out).mono ?_); rintro e w' ⟨rfl, ⟨nd, rfl⟩⟩; refine ⟨_, rfl, ?_⟩) | (go_at_call 37; (with_reducible refine (isa_register.calls a0_1 ((Go.bits .and .i64 t112 1) != 0) true _ A6.out).mono ?_); rintro e w' ⟨rfl, ⟨nd, rfl⟩⟩) | (go_at_call 37; (with_reducible refine (isa_register.calls a0_2 ((Go.bits .and .i64 t112 2) != 0) true _ A8.out).mono ?_); rintro e w' ⟨rfl, ⟨nd, rfl⟩⟩) | (go_at_call 37; (with_reducible refine (isa_register.calls a0_3 ((Go.bits .and .i64 t112 4) != 0) true _ A10.out).mono ?_); rintro e w' ⟨rfl, ⟨nd, rfl⟩⟩) | (go_at_call 38; (with_reducible refine (isa_within.calls a0_4 t112 true _ A12.out).mono ?_); rintro e w' ⟨rfl, ⟨nd, rfl⟩⟩))
            go_ret
            exact ⟨by first | rfl | (simp [errW_none, errW_some] <;> rfl) | (simp [*, errW_none, errW_some] <;> rfl), by repeat (first | (with_reducible first | exact HB.out | apply below_alloc | apply pw_below_drewN | apply below_drew1 | refine below_set ?_ GE111.out) | exact HB.out)⟩
          · replace c13 := Bool.eq_false_iff.mpr c13
            subst c13
            have H1 : (some 1) = some r := by rw [if_neg (show ¬ (false = true) by decide)] at H; exact H
            clear H
            have H := H1
            clear H1
            obtain rfl := Option.some.inj H
            go_enter Try.func29, Try.ntmps29
            go_wp2_with (first | ((with_reducible refine gate_dst (N := 1) rfl ?_); refine box_event ?hg (N := 1) ?hd (cs := #[.int .i64 a0_0, .int .i64 a0_1, .int .i64 a0_2, .int .i64 a0_3, .int .i32 a0_4]) (t := 24) ?hr ?_; (case hd => rfl); (case hg => rfl); (case hr => first | (go_simp; done) | (go_simp; rfl)); intro gb111 hg w16 hbox hb; have n0_ := Aside0.mk (below_step (by repeat (first | (with_reducible first | exact HB.out | apply below_alloc | apply pw_below_drewN | apply below_drew1) | exact HB.out)) hb); have n1_ := Aside0.mk (hbox); have n2_ := Aside0.mk ((by rw [hg]; exact (below_size (by repeat (first | (with_reducible first | exact HB.out | apply below_alloc | apply pw_below_drewN | apply below_drew1) | exact HB.out))) : w.heap.size ≤ gb111)); have n3_ := Aside0.mk ((by rw [hg]; exact (below_size (by repeat (first | (with_reducible first | exact HB.out | apply below_alloc | apply pw_below_drewN | apply below_drew1) | exact HB.out))) : w.heap.size ≤ gb111)); clear HB; have HB := n0_; have BK111 := n1_; have GW111 := n2_; have GE111 := n3_; clear n0_ n1_ n2_ n3_; clear hb hbox hg; have hcz17_0 : w16.cell? ⟨gb111, 0, none⟩ = some (.int .i64 a0_0) := (blk_cell BK111.out 0).trans rfl; have hcz17_1 : w16.cell? ⟨gb111, 1, none⟩ = some (.int .i64 a0_1) := (blk_cell BK111.out 1).trans rfl; have hcz17_2 : w16.cell? ⟨gb111, 2, none⟩ = some (.int .i64 a0_2) := (blk_cell BK111.out 2).trans rfl; have hcz17_3 : w16.cell? ⟨gb111, 3, none⟩ = some (.int .i64 a0_3) := (blk_cell BK111.out 3).trans rfl; have hcz17_4 : w16.cell? ⟨gb111, 4, none⟩ = some (.int .i32 a0_4) := (blk_cell BK111.out 4).trans rfl; have hfz17_0 := blk_frozen BK111.out 0; have hfz17_1 := blk_frozen BK111.out 1; have hfz17_2 := blk_frozen BK111.out 2; have hfz17_3 := blk_frozen BK111.out 3; have hfz17_4 := blk_frozen BK111.out 4) | ((with_reducible refine gate_callee (f := 30) rfl ?_); refine goesL_ (some 6) rfl rfl Try.func30 (by kernel_rfl) rfl #[.int .i64 a0_0] rfl (by (try simp only [List.map_toArray, List.map_cons, List.map_nil]); first | done | rfl | (simp only [List.length_drop, List.length_take]; rfl)) ?_; (with_reducible refine (isa_parts.calls k a0_0 t112 _ A2.out).mono ?_); rintro e w' ⟨rfl, ⟨nd, rfl⟩⟩; refine ⟨_, rfl, ?_⟩) | (go_at_call 37; (with_reducible refine (isa_register.calls a0_1 ((Go.bits .and .i64 t112 1) != 0) true _ A6.out).mono ?_); rintro e w' ⟨rfl, ⟨nd, rfl⟩⟩) | (go_at_call 37; (with_reducible refine (isa_register.calls a0_2 ((Go.bits .and .i64 t112 2) != 0) true _ A8.out).mono ?_); rintro e w' ⟨rfl, ⟨nd, rfl⟩⟩) | (go_at_call 37; (with_reducible refine (isa_register.calls a0_3 ((Go.bits .and .i64 t112 4) != 0) true _ A10.out).mono ?_); rintro e w' ⟨rfl, ⟨nd, rfl⟩⟩) | (go_at_call 38; (with_reducible refine (isa_within.calls a0_4 t112 false _ A12.out).mono ?_); rintro e w' ⟨rfl, ⟨nd, rfl⟩⟩))
            go_ret
            exact ⟨by first | rfl | (simp [errW_none, errW_some] <;> rfl) | (simp [*, errW_none, errW_some] <;> rfl), by repeat (first | (with_reducible first | exact HB.out | apply below_alloc | apply pw_below_drewN | apply below_drew1 | refine below_set ?_ GE111.out) | exact HB.out)⟩
        · replace c11 := Bool.eq_false_iff.mpr c11
          subst c11
          have H1 : (some 1) = some r := by rw [if_neg (show ¬ (false = true) by decide)] at H; exact H
          clear H
          have H := H1
          clear H1
          obtain rfl := Option.some.inj H
          go_enter Try.func29, Try.ntmps29
          go_wp2_with (first | ((with_reducible refine gate_dst (N := 1) rfl ?_); refine box_event ?hg (N := 1) ?hd (cs := #[.int .i64 a0_0, .int .i64 a0_1, .int .i64 a0_2, .int .i64 a0_3, .int .i32 a0_4]) (t := 24) ?hr ?_; (case hd => rfl); (case hg => rfl); (case hr => first | (go_simp; done) | (go_simp; rfl)); intro gb111 hg w18 hbox hb; have n0_ := Aside0.mk (below_step (by repeat (first | (with_reducible first | exact HB.out | apply below_alloc | apply pw_below_drewN | apply below_drew1) | exact HB.out)) hb); have n1_ := Aside0.mk (hbox); have n2_ := Aside0.mk ((by rw [hg]; exact (below_size (by repeat (first | (with_reducible first | exact HB.out | apply below_alloc | apply pw_below_drewN | apply below_drew1) | exact HB.out))) : w.heap.size ≤ gb111)); have n3_ := Aside0.mk ((by rw [hg]; exact (below_size (by repeat (first | (with_reducible first | exact HB.out | apply below_alloc | apply pw_below_drewN | apply below_drew1) | exact HB.out))) : w.heap.size ≤ gb111)); clear HB; have HB := n0_; have BK111 := n1_; have GW111 := n2_; have GE111 := n3_; clear n0_ n1_ n2_ n3_; clear hb hbox hg; have hcz19_0 : w18.cell? ⟨gb111, 0, none⟩ = some (.int .i64 a0_0) := (blk_cell BK111.out 0).trans rfl; have hcz19_1 : w18.cell? ⟨gb111, 1, none⟩ = some (.int .i64 a0_1) := (blk_cell BK111.out 1).trans rfl; have hcz19_2 : w18.cell? ⟨gb111, 2, none⟩ = some (.int .i64 a0_2) := (blk_cell BK111.out 2).trans rfl; have hcz19_3 : w18.cell? ⟨gb111, 3, none⟩ = some (.int .i64 a0_3) := (blk_cell BK111.out 3).trans rfl; have hcz19_4 : w18.cell? ⟨gb111, 4, none⟩ = some (.int .i32 a0_4) := (blk_cell BK111.out 4).trans rfl; have hfz19_0 := blk_frozen BK111.out 0; have hfz19_1 := blk_frozen BK111.out 1; have hfz19_2 := blk_frozen BK111.out 2; have hfz19_3 := blk_frozen BK111.out 3; have hfz19_4 := blk_frozen BK111.out 4) | ((with_reducible refine gate_callee (f := 30) rfl ?_); refine goesL_ (some 6) rfl rfl Try.func30 (by kernel_rfl) rfl #[.int .i64 a0_0] rfl (by (try simp only [List.map_toArray, List.map_cons, List.map_nil]); first | done | rfl | (simp only [List.length_drop, List.length_take]; rfl)) ?_; (with_reducible refine (isa_parts.calls k a0_0 t112 _ A2.out).mono ?_); rintro e w' ⟨rfl, ⟨nd, rfl⟩⟩; refine ⟨_, rfl, ?_⟩) | (go_at_call 37; (with_reducible refine (isa_register.calls a0_1 ((Go.bits .and .i64 t112 1) != 0) true _ A6.out).mono ?_); rintro e w' ⟨rfl, ⟨nd, rfl⟩⟩) | (go_at_call 37; (with_reducible refine (isa_register.calls a0_2 ((Go.bits .and .i64 t112 2) != 0) true _ A8.out).mono ?_); rintro e w' ⟨rfl, ⟨nd, rfl⟩⟩) | (go_at_call 37; (with_reducible refine (isa_register.calls a0_3 ((Go.bits .and .i64 t112 4) != 0) false _ A10.out).mono ?_); rintro e w' ⟨rfl, ⟨nd, rfl⟩⟩))
          go_ret
          exact ⟨by first | rfl | (simp [errW_none, errW_some] <;> rfl) | (simp [*, errW_none, errW_some] <;> rfl), by repeat (first | (with_reducible first | exact HB.out | apply below_alloc | apply pw_below_drewN | apply below_drew1 | refine below_set ?_ GE111.out) | exact HB.out)⟩
      · replace c9 := Bool.eq_false_iff.mpr c9
        subst c9
        have H1 : (some 1) = some r := by rw [if_neg (show ¬ (false = true) by decide)] at H; exact H
        clear H
        have H := H1
        clear H1
        obtain rfl := Option.some.inj H
        go_enter Try.func29, Try.ntmps29
        go_wp2_with (first | ((with_reducible refine gate_dst (N := 1) rfl ?_); refine box_event ?hg (N := 1) ?hd (cs := #[.int .i64 a0_0, .int .i64 a0_1, .int .i64 a0_2, .int .i64 a0_3, .int .i32 a0_4]) (t := 24) ?hr ?_; (case hd => rfl); (case hg => rfl); (case hr => first | (go_simp; done) | (go_simp; rfl)); intro gb111 hg w20 hbox hb; have n0_ := Aside0.mk (below_step (by repeat (first | (with_reducible first | exact HB.out | apply below_alloc | apply pw_below_drewN | apply below_drew1) | exact HB.out)) hb); have n1_ := Aside0.mk (hbox); have n2_ := Aside0.mk ((by rw [hg]; exact (below_size (by repeat (first | (with_reducible first | exact HB.out | apply below_alloc | apply pw_below_drewN | apply below_drew1) | exact HB.out))) : w.heap.size ≤ gb111)); have n3_ := Aside0.mk ((by rw [hg]; exact (below_size (by repeat (first | (with_reducible first | exact HB.out | apply below_alloc | apply pw_below_drewN | apply below_drew1) | exact HB.out))) : w.heap.size ≤ gb111)); clear HB; have HB := n0_; have BK111 := n1_; have GW111 := n2_; have GE111 := n3_; clear n0_ n1_ n2_ n3_; clear hb hbox hg; have hcz21_0 : w20.cell? ⟨gb111, 0, none⟩ = some (.int .i64 a0_0) := (blk_cell BK111.out 0).trans rfl; have hcz21_1 : w20.cell? ⟨gb111, 1, none⟩ = some (.int .i64 a0_1) := (blk_cell BK111.out 1).trans rfl; have hcz21_2 : w20.cell? ⟨gb111, 2, none⟩ = some (.int .i64 a0_2) := (blk_cell BK111.out 2).trans rfl; have hcz21_3 : w20.cell? ⟨gb111, 3, none⟩ = some (.int .i64 a0_3) := (blk_cell BK111.out 3).trans rfl; have hcz21_4 : w20.cell? ⟨gb111, 4, none⟩ = some (.int .i32 a0_4) := (blk_cell BK111.out 4).trans rfl; have hfz21_0 := blk_frozen BK111.out 0; have hfz21_1 := blk_frozen BK111.out 1; have hfz21_2 := blk_frozen BK111.out 2; have hfz21_3 := blk_frozen BK111.out 3; have hfz21_4 := blk_frozen BK111.out 4) | ((with_reducible refine gate_callee (f := 30) rfl ?_); refine goesL_ (some 6) rfl rfl Try.func30 (by kernel_rfl) rfl #[.int .i64 a0_0] rfl (by (try simp only [List.map_toArray, List.map_cons, List.map_nil]); first | done | rfl | (simp only [List.length_drop, List.length_take]; rfl)) ?_; (with_reducible refine (isa_parts.calls k a0_0 t112 _ A2.out).mono ?_); rintro e w' ⟨rfl, ⟨nd, rfl⟩⟩; refine ⟨_, rfl, ?_⟩) | (go_at_call 37; (with_reducible refine (isa_register.calls a0_1 ((Go.bits .and .i64 t112 1) != 0) true _ A6.out).mono ?_); rintro e w' ⟨rfl, ⟨nd, rfl⟩⟩) | (go_at_call 37; (with_reducible refine (isa_register.calls a0_2 ((Go.bits .and .i64 t112 2) != 0) false _ A8.out).mono ?_); rintro e w' ⟨rfl, ⟨nd, rfl⟩⟩))
        go_ret
        exact ⟨by first | rfl | (simp [errW_none, errW_some] <;> rfl) | (simp [*, errW_none, errW_some] <;> rfl), by repeat (first | (with_reducible first | exact HB.out | apply below_alloc | apply pw_below_drewN | apply below_drew1 | refine below_set ?_ GE111.out) | exact HB.out)⟩
    · replace c7 := Bool.eq_false_iff.mpr c7
      subst c7
      have H1 : (some 1) = some r := by rw [if_neg (show ¬ (false = true) by decide)] at H; exact H
      clear H
      have H := H1
      clear H1
      obtain rfl := Option.some.inj H
      go_enter Try.func29, Try.ntmps29
      go_wp2_with (first | ((with_reducible refine gate_dst (N := 1) rfl ?_); refine box_event ?hg (N := 1) ?hd (cs := #[.int .i64 a0_0, .int .i64 a0_1, .int .i64 a0_2, .int .i64 a0_3, .int .i32 a0_4]) (t := 24) ?hr ?_; (case hd => rfl); (case hg => rfl); (case hr => first | (go_simp; done) | (go_simp; rfl)); intro gb111 hg w22 hbox hb; have n0_ := Aside0.mk (below_step (by repeat (first | (with_reducible first | exact HB.out | apply below_alloc | apply pw_below_drewN | apply below_drew1) | exact HB.out)) hb); have n1_ := Aside0.mk (hbox); have n2_ := Aside0.mk ((by rw [hg]; exact (below_size (by repeat (first | (with_reducible first | exact HB.out | apply below_alloc | apply pw_below_drewN | apply below_drew1) | exact HB.out))) : w.heap.size ≤ gb111)); have n3_ := Aside0.mk ((by rw [hg]; exact (below_size (by repeat (first | (with_reducible first | exact HB.out | apply below_alloc | apply pw_below_drewN | apply below_drew1) | exact HB.out))) : w.heap.size ≤ gb111)); clear HB; have HB := n0_; have BK111 := n1_; have GW111 := n2_; have GE111 := n3_; clear n0_ n1_ n2_ n3_; clear hb hbox hg; have hcz23_0 : w22.cell? ⟨gb111, 0, none⟩ = some (.int .i64 a0_0) := (blk_cell BK111.out 0).trans rfl; have hcz23_1 : w22.cell? ⟨gb111, 1, none⟩ = some (.int .i64 a0_1) := (blk_cell BK111.out 1).trans rfl; have hcz23_2 : w22.cell? ⟨gb111, 2, none⟩ = some (.int .i64 a0_2) := (blk_cell BK111.out 2).trans rfl; have hcz23_3 : w22.cell? ⟨gb111, 3, none⟩ = some (.int .i64 a0_3) := (blk_cell BK111.out 3).trans rfl; have hcz23_4 : w22.cell? ⟨gb111, 4, none⟩ = some (.int .i32 a0_4) := (blk_cell BK111.out 4).trans rfl; have hfz23_0 := blk_frozen BK111.out 0; have hfz23_1 := blk_frozen BK111.out 1; have hfz23_2 := blk_frozen BK111.out 2; have hfz23_3 := blk_frozen BK111.out 3; have hfz23_4 := blk_frozen BK111.out 4) | ((with_reducible refine gate_callee (f := 30) rfl ?_); refine goesL_ (some 6) rfl rfl Try.func30 (by kernel_rfl) rfl #[.int .i64 a0_0] rfl (by (try simp only [List.map_toArray, List.map_cons, List.map_nil]); first | done | rfl | (simp only [List.length_drop, List.length_take]; rfl)) ?_; (with_reducible refine (isa_parts.calls k a0_0 t112 _ A2.out).mono ?_); rintro e w' ⟨rfl, ⟨nd, rfl⟩⟩; refine ⟨_, rfl, ?_⟩) | (go_at_call 37; (with_reducible refine (isa_register.calls a0_1 ((Go.bits .and .i64 t112 1) != 0) false _ A6.out).mono ?_); rintro e w' ⟨rfl, ⟨nd, rfl⟩⟩))
      go_ret
      exact ⟨by first | rfl | (simp [errW_none, errW_some] <;> rfl) | (simp [*, errW_none, errW_some] <;> rfl), by repeat (first | (with_reducible first | exact HB.out | apply below_alloc | apply pw_below_drewN | apply below_drew1 | refine below_set ?_ GE111.out) | exact HB.out)⟩
def asm_branches.f (a0 : Int) : Option (Bool) := if a0 = 39 then (some true) else (if a0 = 40 then (some true) else (if a0 = 41 then (some true) else (some (a0 == 42))))
set_option maxHeartbeats 8000000 in
set_option maxRecDepth 100000 in
theorem asm_branches.calls (a0 : Int) (r : Bool) (w : World) (h : asm_branches.f a0 = some r) :
    Calls Try.prog 33 #[.int .i64 a0] w fun e w' => e = .returned (.bool r) ∧ Drawn0 w w' := by
  have H : (if a0 = 39 then (some true) else (if a0 = 40 then (some true) else (if a0 = 41 then (some true) else (some (a0 == 42))))) = some r := h
  clear h
  by_cases c2 : a0 = 39
  · rw [if_pos c2] at H
    have c2b0 : (a0 == 39) = true := beq_iff_eq.mpr c2
    have c2b1 : (a0 != 39) = false := bne_eq_false_iff_eq.mpr c2
    clear c2
    obtain rfl := Option.some.inj H
    go_enter Try.func33, Try.ntmps33
    go_wp2
    go_ret
    exact ⟨by first | rfl | (simp; done) | (simp [*]; done), by repeat (first | exact Drawn0.refl _ | apply Drawn0.step)⟩
  · rw [if_neg c2] at H
    have c2b0 : (a0 == 39) = false := beq_eq_false_iff_ne.mpr c2
    have c2b1 : (a0 != 39) = true := bne_iff_ne.mpr c2
    by_cases c3 : a0 = 40
    · rw [if_pos c3] at H
      have c3b0 : (a0 == 40) = true := beq_iff_eq.mpr c3
      have c3b1 : (a0 != 40) = false := bne_eq_false_iff_eq.mpr c3
      clear c3
      obtain rfl := Option.some.inj H
      go_enter Try.func33, Try.ntmps33
      go_wp2
      go_ret
      exact ⟨by first | rfl | (simp; done) | (simp [*]; done), by repeat (first | exact Drawn0.refl _ | apply Drawn0.step)⟩
    · rw [if_neg c3] at H
      have c3b0 : (a0 == 40) = false := beq_eq_false_iff_ne.mpr c3
      have c3b1 : (a0 != 40) = true := bne_iff_ne.mpr c3
      by_cases c4 : a0 = 41
      · rw [if_pos c4] at H
        have c4b0 : (a0 == 41) = true := beq_iff_eq.mpr c4
        have c4b1 : (a0 != 41) = false := bne_eq_false_iff_eq.mpr c4
        clear c4
        obtain rfl := Option.some.inj H
        go_enter Try.func33, Try.ntmps33
        go_wp2
        go_ret
        exact ⟨by first | rfl | (simp; done) | (simp [*]; done), by repeat (first | exact Drawn0.refl _ | apply Drawn0.step)⟩
      · rw [if_neg c4] at H
        have c4b0 : (a0 == 41) = false := beq_eq_false_iff_ne.mpr c4
        have c4b1 : (a0 != 41) = true := bne_iff_ne.mpr c4
        obtain rfl := Option.some.inj H
        go_enter Try.func33, Try.ntmps33
        go_wp2
        go_ret
        exact ⟨by first | rfl | (simp; done) | (simp [*]; done), by repeat (first | exact Drawn0.refl _ | apply Drawn0.step)⟩
def asm_may.f (k : Nat) (a0_0 : Int) (a0_1 : Int) (a0_2 : Int) (a0_3 : Int) (a0_4 : Int) (a0_5 : Int) (a0_6 : Int) : Option (Bool) := if a0_0 = 0 then (if a0_6 = 0 then ((isa_Check.f k a0_1 a0_2 a0_3 a0_4 a0_5).bind fun t118 => (some (t118 == 0))) else (if a0_6 < 0 then (some false) else (if a0_5 = 0 then ((asm_branches.f a0_1).bind fun t119 => (if t119 = true then ((isa_Check.f k a0_1 a0_2 a0_3 a0_4 a0_5).bind fun t120 => (some (t120 == 0))) else (some false))) else (some false)))) else (if a0_0 > 0 then (if a0_6 = 0 then (some (a0_1 == 0 && (a0_2 == 0 && (a0_3 == 0 && (a0_4 == 0 && (a0_5 == 0)))))) else (some false)) else (some false))
set_option maxHeartbeats 8000000 in
set_option maxRecDepth 100000 in
theorem asm_may.calls (k : Nat) (a0_0 : Int) (a0_1 : Int) (a0_2 : Int) (a0_3 : Int) (a0_4 : Int) (a0_5 : Int) (a0_6 : Int) (r : Bool) (w : World) (h : asm_may.f k a0_0 a0_1 a0_2 a0_3 a0_4 a0_5 a0_6 = some r) :
    Calls Try.prog 23 #[.agg #[.int .i64 a0_0, .int .i64 a0_1, .int .i64 a0_2, .int .i64 a0_3, .int .i64 a0_4, .int .i32 a0_5, .int .i64 a0_6]] w fun e w' => e = .returned (.bool r) ∧ Below w.heap.size w w' := by
  have hu37 := Try.underlying37
  have hu24 := Try.underlying24
  have HB := Aside0.mk (Below.refl w.heap.size w)
  have H : (if a0_0 = 0 then (if a0_6 = 0 then ((isa_Check.f k a0_1 a0_2 a0_3 a0_4 a0_5).bind fun t118 => (some (t118 == 0))) else (if a0_6 < 0 then (some false) else (if a0_5 = 0 then ((asm_branches.f a0_1).bind fun t119 => (if t119 = true then ((isa_Check.f k a0_1 a0_2 a0_3 a0_4 a0_5).bind fun t120 => (some (t120 == 0))) else (some false))) else (some false)))) else (if a0_0 > 0 then (if a0_6 = 0 then (some (a0_1 == 0 && (a0_2 == 0 && (a0_3 == 0 && (a0_4 == 0 && (a0_5 == 0)))))) else (some false)) else (some false))) = some r := h
  clear h
  by_cases c2 : a0_0 = 0
  · rw [if_pos c2] at H
    have c2b0 : (a0_0 == 0) = true := beq_iff_eq.mpr c2
    have c2b1 : (a0_0 != 0) = false := bne_eq_false_iff_eq.mpr c2
    clear c2
    by_cases c3 : a0_6 = 0
    · rw [if_pos c3] at H
      have c3b0 : (a0_6 == 0) = true := beq_iff_eq.mpr c3
      have c3b1 : (a0_6 != 0) = false := bne_eq_false_iff_eq.mpr c3
      clear c3
      replace H := Option.bind_eq_some_iff.mp H
      obtain ⟨t118, A40, H⟩ := H
      replace H : (some (t118 == 0)) = some r := H
      have A4 := Aside0.mk A40
      clear A40
      obtain rfl := Option.some.inj H
      go_enter Try.func23, Try.ntmps23
      go_wp2_with (first | ((with_reducible refine gate_dst (N := 1) rfl ?_); refine box_event ?hg (N := 1) ?hd (cs := #[.int .i64 a0_0, .int .i64 a0_1, .int .i64 a0_2, .int .i64 a0_3, .int .i64 a0_4, .int .i32 a0_5, .int .i64 a0_6]) (t := 37) ?hr ?_; (case hd => rfl); (case hg => rfl); (case hr => first | (go_simp; done) | (go_simp; rfl)); intro gb117 hg w5 hbox hb; have n0_ := Aside0.mk (below_step (by repeat (first | (with_reducible first | exact HB.out | apply below_alloc | apply pw_below_drewN | apply below_drew1) | exact HB.out)) hb); have n1_ := Aside0.mk (hbox); have n2_ := Aside0.mk ((by rw [hg]; exact (below_size (by repeat (first | (with_reducible first | exact HB.out | apply below_alloc | apply pw_below_drewN | apply below_drew1) | exact HB.out))) : w.heap.size ≤ gb117)); have n3_ := Aside0.mk ((by rw [hg]; exact (below_size (by repeat (first | (with_reducible first | exact HB.out | apply below_alloc | apply pw_below_drewN | apply below_drew1) | exact HB.out))) : w.heap.size ≤ gb117)); clear HB; have HB := n0_; have BK117 := n1_; have GW117 := n2_; have GE117 := n3_; clear n0_ n1_ n2_ n3_; clear hb hbox hg; have hcz6_0 : w5.cell? ⟨gb117, 0, none⟩ = some (.int .i64 a0_0) := (blk_cell BK117.out 0).trans rfl; have hcz6_1 : w5.cell? ⟨gb117, 1, none⟩ = some (.int .i64 a0_1) := (blk_cell BK117.out 1).trans rfl; have hcz6_2 : w5.cell? ⟨gb117, 2, none⟩ = some (.int .i64 a0_2) := (blk_cell BK117.out 2).trans rfl; have hcz6_3 : w5.cell? ⟨gb117, 3, none⟩ = some (.int .i64 a0_3) := (blk_cell BK117.out 3).trans rfl; have hcz6_4 : w5.cell? ⟨gb117, 4, none⟩ = some (.int .i64 a0_4) := (blk_cell BK117.out 4).trans rfl; have hcz6_5 : w5.cell? ⟨gb117, 5, none⟩ = some (.int .i32 a0_5) := (blk_cell BK117.out 5).trans rfl; have hcz6_6 : w5.cell? ⟨gb117, 6, none⟩ = some (.int .i64 a0_6) := (blk_cell BK117.out 6).trans rfl; have hfz6_0 := blk_frozen BK117.out 0; have hfz6_1 := blk_frozen BK117.out 1; have hfz6_2 := blk_frozen BK117.out 2; have hfz6_3 := blk_frozen BK117.out 3; have hfz6_4 := blk_frozen BK117.out 4; have hfz6_5 := blk_frozen BK117.out 5; have hfz6_6 := blk_frozen BK117.out 6) | ((with_reducible refine gate_callee (f := 29) rfl ?_); refine goesL_ (some 45) rfl rfl Try.func29 (by kernel_rfl) rfl #[.agg #[.int .i64 a0_1, .int .i64 a0_2, .int .i64 a0_3, .int .i64 a0_4, .int .i32 a0_5]] rfl (by (try simp only [List.map_toArray, List.map_cons, List.map_nil]); first | done | rfl | (simp only [List.length_drop, List.length_take]; rfl)) ?_; (with_reducible refine (isa_Check.calls k a0_1 a0_2 a0_3 a0_4 a0_5 t118 _ A4.out).mono ?_); rintro e w7 ⟨rfl, hb⟩; refine ⟨_, rfl, ?_⟩; have n0_ := Aside0.mk (blk_below (g := gb117) (o := .cells #[.int .i64 a0_0, .int .i64 a0_1, .int .i64 a0_2, .int .i64 a0_3, .int .i64 a0_4, .int .i32 a0_5, .int .i64 a0_6] 37 (0, 0)) (by (with_reducible repeat (first | refine blk_drewN ?_ _ | refine blk_drew ?_ | refine blk_alloc ?_ _)); exact BK117.out) hb); have n1_ := Aside0.mk (below_step (by repeat (first | (with_reducible first | exact HB.out | apply below_alloc | apply pw_below_drewN | apply below_drew1 | refine below_set ?_ GE117.out) | exact HB.out)) hb); clear BK117; clear HB; have BK117 := n0_; have HB := n1_; clear n0_ n1_; (try clear hb); (try clear hb2); (try clear hk); (try clear hi)))
      go_ret
      exact ⟨by first | rfl | (simp [errW_none, errW_some] <;> rfl) | (simp [*, errW_none, errW_some] <;> rfl), by repeat (first | (with_reducible first | exact HB.out | apply below_alloc | apply pw_below_drewN | apply below_drew1 | refine below_set ?_ GE117.out) | exact HB.out)⟩
    · rw [if_neg c3] at H
      have c3b0 : (a0_6 == 0) = false := beq_eq_false_iff_ne.mpr c3
      have c3b1 : (a0_6 != 0) = true := bne_iff_ne.mpr c3
      by_cases c8 : a0_6 < 0
      · rw [if_pos c8] at H
        have c8b0 : decide (a0_6 < 0) = true := decide_eq_true c8
        clear c8
        obtain rfl := Option.some.inj H
        go_enter Try.func23, Try.ntmps23
        go_wp2_with (first | ((with_reducible refine gate_dst (N := 1) rfl ?_); refine box_event ?hg (N := 1) ?hd (cs := #[.int .i64 a0_0, .int .i64 a0_1, .int .i64 a0_2, .int .i64 a0_3, .int .i64 a0_4, .int .i32 a0_5, .int .i64 a0_6]) (t := 37) ?hr ?_; (case hd => rfl); (case hg => rfl); (case hr => first | (go_simp; done) | (go_simp; rfl)); intro gb117 hg w9 hbox hb; have n0_ := Aside0.mk (below_step (by repeat (first | (with_reducible first | exact HB.out | apply below_alloc | apply pw_below_drewN | apply below_drew1) | exact HB.out)) hb); have n1_ := Aside0.mk (hbox); have n2_ := Aside0.mk ((by rw [hg]; exact (below_size (by repeat (first | (with_reducible first | exact HB.out | apply below_alloc | apply pw_below_drewN | apply below_drew1) | exact HB.out))) : w.heap.size ≤ gb117)); have n3_ := Aside0.mk ((by rw [hg]; exact (below_size (by repeat (first | (with_reducible first | exact HB.out | apply below_alloc | apply pw_below_drewN | apply below_drew1) | exact HB.out))) : w.heap.size ≤ gb117)); clear HB; have HB := n0_; have BK117 := n1_; have GW117 := n2_; have GE117 := n3_; clear n0_ n1_ n2_ n3_; clear hb hbox hg; have hcz10_0 : w9.cell? ⟨gb117, 0, none⟩ = some (.int .i64 a0_0) := (blk_cell BK117.out 0).trans rfl; have hcz10_1 : w9.cell? ⟨gb117, 1, none⟩ = some (.int .i64 a0_1) := (blk_cell BK117.out 1).trans rfl; have hcz10_2 : w9.cell? ⟨gb117, 2, none⟩ = some (.int .i64 a0_2) := (blk_cell BK117.out 2).trans rfl; have hcz10_3 : w9.cell? ⟨gb117, 3, none⟩ = some (.int .i64 a0_3) := (blk_cell BK117.out 3).trans rfl; have hcz10_4 : w9.cell? ⟨gb117, 4, none⟩ = some (.int .i64 a0_4) := (blk_cell BK117.out 4).trans rfl; have hcz10_5 : w9.cell? ⟨gb117, 5, none⟩ = some (.int .i32 a0_5) := (blk_cell BK117.out 5).trans rfl; have hcz10_6 : w9.cell? ⟨gb117, 6, none⟩ = some (.int .i64 a0_6) := (blk_cell BK117.out 6).trans rfl; have hfz10_0 := blk_frozen BK117.out 0; have hfz10_1 := blk_frozen BK117.out 1; have hfz10_2 := blk_frozen BK117.out 2; have hfz10_3 := blk_frozen BK117.out 3; have hfz10_4 := blk_frozen BK117.out 4; have hfz10_5 := blk_frozen BK117.out 5; have hfz10_6 := blk_frozen BK117.out 6))
        go_ret
        exact ⟨by first | rfl | (simp [errW_none, errW_some] <;> rfl) | (simp [*, errW_none, errW_some] <;> rfl), by repeat (first | (with_reducible first | exact HB.out | apply below_alloc | apply pw_below_drewN | apply below_drew1 | refine below_set ?_ GE117.out) | exact HB.out)⟩
      · rw [if_neg c8] at H
        have c8b0 : decide (a0_6 < 0) = false := decide_eq_false c8
        clear c8
        by_cases c11 : a0_5 = 0
        · rw [if_pos c11] at H
          have c11b0 : (a0_5 == 0) = true := beq_iff_eq.mpr c11
          have c11b1 : (a0_5 != 0) = false := bne_eq_false_iff_eq.mpr c11
          clear c11
          replace H := Option.bind_eq_some_iff.mp H
          obtain ⟨t119, A120, H⟩ := H
          replace H : (if t119 = true then ((isa_Check.f k a0_1 a0_2 a0_3 a0_4 a0_5).bind fun t120 => (some (t120 == 0))) else (some false)) = some r := H
          have A12 := Aside0.mk A120
          clear A120
          by_cases c13 : t119 = true
          · subst c13
            have H1 : ((isa_Check.f k a0_1 a0_2 a0_3 a0_4 a0_5).bind fun t120 => (some (t120 == 0))) = some r := by rw [if_pos rfl] at H; exact H
            clear H
            have H := H1
            clear H1
            replace H := Option.bind_eq_some_iff.mp H
            obtain ⟨t120, A140, H⟩ := H
            replace H : (some (t120 == 0)) = some r := H
            have A14 := Aside0.mk A140
            clear A140
            obtain rfl := Option.some.inj H
            go_enter Try.func23, Try.ntmps23
            go_wp2_with (first | ((with_reducible refine gate_dst (N := 1) rfl ?_); refine box_event ?hg (N := 1) ?hd (cs := #[.int .i64 a0_0, .int .i64 a0_1, .int .i64 a0_2, .int .i64 a0_3, .int .i64 a0_4, .int .i32 a0_5, .int .i64 a0_6]) (t := 37) ?hr ?_; (case hd => rfl); (case hg => rfl); (case hr => first | (go_simp; done) | (go_simp; rfl)); intro gb117 hg w15 hbox hb; have n0_ := Aside0.mk (below_step (by repeat (first | (with_reducible first | exact HB.out | apply below_alloc | apply pw_below_drewN | apply below_drew1) | exact HB.out)) hb); have n1_ := Aside0.mk (hbox); have n2_ := Aside0.mk ((by rw [hg]; exact (below_size (by repeat (first | (with_reducible first | exact HB.out | apply below_alloc | apply pw_below_drewN | apply below_drew1) | exact HB.out))) : w.heap.size ≤ gb117)); have n3_ := Aside0.mk ((by rw [hg]; exact (below_size (by repeat (first | (with_reducible first | exact HB.out | apply below_alloc | apply pw_below_drewN | apply below_drew1) | exact HB.out))) : w.heap.size ≤ gb117)); clear HB; have HB := n0_; have BK117 := n1_; have GW117 := n2_; have GE117 := n3_; clear n0_ n1_ n2_ n3_; clear hb hbox hg; have hcz16_0 : w15.cell? ⟨gb117, 0, none⟩ = some (.int .i64 a0_0) := (blk_cell BK117.out 0).trans rfl; have hcz16_1 : w15.cell? ⟨gb117, 1, none⟩ = some (.int .i64 a0_1) := (blk_cell BK117.out 1).trans rfl; have hcz16_2 : w15.cell? ⟨gb117, 2, none⟩ = some (.int .i64 a0_2) := (blk_cell BK117.out 2).trans rfl; have hcz16_3 : w15.cell? ⟨gb117, 3, none⟩ = some (.int .i64 a0_3) := (blk_cell BK117.out 3).trans rfl; have hcz16_4 : w15.cell? ⟨gb117, 4, none⟩ = some (.int .i64 a0_4) := (blk_cell BK117.out 4).trans rfl; have hcz16_5 : w15.cell? ⟨gb117, 5, none⟩ = some (.int .i32 a0_5) := (blk_cell BK117.out 5).trans rfl; have hcz16_6 : w15.cell? ⟨gb117, 6, none⟩ = some (.int .i64 a0_6) := (blk_cell BK117.out 6).trans rfl; have hfz16_0 := blk_frozen BK117.out 0; have hfz16_1 := blk_frozen BK117.out 1; have hfz16_2 := blk_frozen BK117.out 2; have hfz16_3 := blk_frozen BK117.out 3; have hfz16_4 := blk_frozen BK117.out 4; have hfz16_5 := blk_frozen BK117.out 5; have hfz16_6 := blk_frozen BK117.out 6) | (go_at_call 33; (with_reducible refine (asm_branches.calls a0_1 true _ A12.out).mono ?_); rintro e w' ⟨rfl, ⟨nd, rfl⟩⟩) | ((with_reducible refine gate_callee (f := 29) rfl ?_); refine goesL_ (some 45) rfl rfl Try.func29 (by kernel_rfl) rfl #[.agg #[.int .i64 a0_1, .int .i64 a0_2, .int .i64 a0_3, .int .i64 a0_4, .int .i32 a0_5]] rfl (by (try simp only [List.map_toArray, List.map_cons, List.map_nil]); first | done | rfl | (simp only [List.length_drop, List.length_take]; rfl)) ?_; (with_reducible refine (isa_Check.calls k a0_1 a0_2 a0_3 a0_4 a0_5 t120 _ A14.out).mono ?_); rintro e w17 ⟨rfl, hb⟩; refine ⟨_, rfl, ?_⟩; have n0_ := Aside0.mk (blk_below (g := gb117) (o := .cells #[.int .i64 a0_0, .int .i64 a0_1, .int .i64 a0_2, .int .i64 a0_3, .int .i64 a0_4, .int .i32 a0_5, .int .i64 a0_6] 37 (0, 0)) (by (with_reducible repeat (first | refine blk_drewN ?_ _ | refine blk_drew ?_ | refine blk_alloc ?_ _)); exact BK117.out) hb); have n1_ := Aside0.mk (below_step (by repeat (first | (with_reducible first | exact HB.out | apply below_alloc | apply pw_below_drewN | apply below_drew1 | refine below_set ?_ GE117.out) | exact HB.out)) hb); clear BK117; clear HB; have BK117 := n0_; have HB := n1_; clear n0_ n1_; (try clear hb); (try clear hb2); (try clear hk); (try clear hi)))
            go_ret
            exact ⟨by first | rfl | (simp [errW_none, errW_some] <;> rfl) | (simp [*, errW_none, errW_some] <;> rfl), by repeat (first | (with_reducible first | exact HB.out | apply below_alloc | apply pw_below_drewN | apply below_drew1 | refine below_set ?_ GE117.out) | exact HB.out)⟩
          · replace c13 := Bool.eq_false_iff.mpr c13
            subst c13
            have H1 : (some false) = some r := by rw [if_neg (show ¬ (false = true) by decide)] at H; exact H
            clear H
            have H := H1
            clear H1
            obtain rfl := Option.some.inj H
            go_enter Try.func23, Try.ntmps23
            go_wp2_with (first | ((with_reducible refine gate_dst (N := 1) rfl ?_); refine box_event ?hg (N := 1) ?hd (cs := #[.int .i64 a0_0, .int .i64 a0_1, .int .i64 a0_2, .int .i64 a0_3, .int .i64 a0_4, .int .i32 a0_5, .int .i64 a0_6]) (t := 37) ?hr ?_; (case hd => rfl); (case hg => rfl); (case hr => first | (go_simp; done) | (go_simp; rfl)); intro gb117 hg w18 hbox hb; have n0_ := Aside0.mk (below_step (by repeat (first | (with_reducible first | exact HB.out | apply below_alloc | apply pw_below_drewN | apply below_drew1) | exact HB.out)) hb); have n1_ := Aside0.mk (hbox); have n2_ := Aside0.mk ((by rw [hg]; exact (below_size (by repeat (first | (with_reducible first | exact HB.out | apply below_alloc | apply pw_below_drewN | apply below_drew1) | exact HB.out))) : w.heap.size ≤ gb117)); have n3_ := Aside0.mk ((by rw [hg]; exact (below_size (by repeat (first | (with_reducible first | exact HB.out | apply below_alloc | apply pw_below_drewN | apply below_drew1) | exact HB.out))) : w.heap.size ≤ gb117)); clear HB; have HB := n0_; have BK117 := n1_; have GW117 := n2_; have GE117 := n3_; clear n0_ n1_ n2_ n3_; clear hb hbox hg; have hcz19_0 : w18.cell? ⟨gb117, 0, none⟩ = some (.int .i64 a0_0) := (blk_cell BK117.out 0).trans rfl; have hcz19_1 : w18.cell? ⟨gb117, 1, none⟩ = some (.int .i64 a0_1) := (blk_cell BK117.out 1).trans rfl; have hcz19_2 : w18.cell? ⟨gb117, 2, none⟩ = some (.int .i64 a0_2) := (blk_cell BK117.out 2).trans rfl; have hcz19_3 : w18.cell? ⟨gb117, 3, none⟩ = some (.int .i64 a0_3) := (blk_cell BK117.out 3).trans rfl; have hcz19_4 : w18.cell? ⟨gb117, 4, none⟩ = some (.int .i64 a0_4) := (blk_cell BK117.out 4).trans rfl; have hcz19_5 : w18.cell? ⟨gb117, 5, none⟩ = some (.int .i32 a0_5) := (blk_cell BK117.out 5).trans rfl; have hcz19_6 : w18.cell? ⟨gb117, 6, none⟩ = some (.int .i64 a0_6) := (blk_cell BK117.out 6).trans rfl; have hfz19_0 := blk_frozen BK117.out 0; have hfz19_1 := blk_frozen BK117.out 1; have hfz19_2 := blk_frozen BK117.out 2; have hfz19_3 := blk_frozen BK117.out 3; have hfz19_4 := blk_frozen BK117.out 4; have hfz19_5 := blk_frozen BK117.out 5; have hfz19_6 := blk_frozen BK117.out 6) | (go_at_call 33; (with_reducible refine (asm_branches.calls a0_1 false _ A12.out).mono ?_); rintro e w' ⟨rfl, ⟨nd, rfl⟩⟩))
            go_ret
            exact ⟨by first | rfl | (simp [errW_none, errW_some] <;> rfl) | (simp [*, errW_none, errW_some] <;> rfl), by repeat (first | (with_reducible first | exact HB.out | apply below_alloc | apply pw_below_drewN | apply below_drew1 | refine below_set ?_ GE117.out) | exact HB.out)⟩
        · rw [if_neg c11] at H
          have c11b0 : (a0_5 == 0) = false := beq_eq_false_iff_ne.mpr c11
          have c11b1 : (a0_5 != 0) = true := bne_iff_ne.mpr c11
          obtain rfl := Option.some.inj H
          go_enter Try.func23, Try.ntmps23
          go_wp2_with (first | ((with_reducible refine gate_dst (N := 1) rfl ?_); refine box_event ?hg (N := 1) ?hd (cs := #[.int .i64 a0_0, .int .i64 a0_1, .int .i64 a0_2, .int .i64 a0_3, .int .i64 a0_4, .int .i32 a0_5, .int .i64 a0_6]) (t := 37) ?hr ?_; (case hd => rfl); (case hg => rfl); (case hr => first | (go_simp; done) | (go_simp; rfl)); intro gb117 hg w20 hbox hb; have n0_ := Aside0.mk (below_step (by repeat (first | (with_reducible first | exact HB.out | apply below_alloc | apply pw_below_drewN | apply below_drew1) | exact HB.out)) hb); have n1_ := Aside0.mk (hbox); have n2_ := Aside0.mk ((by rw [hg]; exact (below_size (by repeat (first | (with_reducible first | exact HB.out | apply below_alloc | apply pw_below_drewN | apply below_drew1) | exact HB.out))) : w.heap.size ≤ gb117)); have n3_ := Aside0.mk ((by rw [hg]; exact (below_size (by repeat (first | (with_reducible first | exact HB.out | apply below_alloc | apply pw_below_drewN | apply below_drew1) | exact HB.out))) : w.heap.size ≤ gb117)); clear HB; have HB := n0_; have BK117 := n1_; have GW117 := n2_; have GE117 := n3_; clear n0_ n1_ n2_ n3_; clear hb hbox hg; have hcz21_0 : w20.cell? ⟨gb117, 0, none⟩ = some (.int .i64 a0_0) := (blk_cell BK117.out 0).trans rfl; have hcz21_1 : w20.cell? ⟨gb117, 1, none⟩ = some (.int .i64 a0_1) := (blk_cell BK117.out 1).trans rfl; have hcz21_2 : w20.cell? ⟨gb117, 2, none⟩ = some (.int .i64 a0_2) := (blk_cell BK117.out 2).trans rfl; have hcz21_3 : w20.cell? ⟨gb117, 3, none⟩ = some (.int .i64 a0_3) := (blk_cell BK117.out 3).trans rfl; have hcz21_4 : w20.cell? ⟨gb117, 4, none⟩ = some (.int .i64 a0_4) := (blk_cell BK117.out 4).trans rfl; have hcz21_5 : w20.cell? ⟨gb117, 5, none⟩ = some (.int .i32 a0_5) := (blk_cell BK117.out 5).trans rfl; have hcz21_6 : w20.cell? ⟨gb117, 6, none⟩ = some (.int .i64 a0_6) := (blk_cell BK117.out 6).trans rfl; have hfz21_0 := blk_frozen BK117.out 0; have hfz21_1 := blk_frozen BK117.out 1; have hfz21_2 := blk_frozen BK117.out 2; have hfz21_3 := blk_frozen BK117.out 3; have hfz21_4 := blk_frozen BK117.out 4; have hfz21_5 := blk_frozen BK117.out 5; have hfz21_6 := blk_frozen BK117.out 6))
          go_ret
          exact ⟨by first | rfl | (simp [errW_none, errW_some] <;> rfl) | (simp [*, errW_none, errW_some] <;> rfl), by repeat (first | (with_reducible first | exact HB.out | apply below_alloc | apply pw_below_drewN | apply below_drew1 | refine below_set ?_ GE117.out) | exact HB.out)⟩
  · rw [if_neg c2] at H
    have c2b0 : (a0_0 == 0) = false := beq_eq_false_iff_ne.mpr c2
    have c2b1 : (a0_0 != 0) = true := bne_iff_ne.mpr c2
    by_cases c22 : a0_0 > 0
    · rw [if_pos c22] at H
      have c22b0 : decide (0 < a0_0) = true := decide_eq_true c22
      clear c22
      by_cases c23 : a0_6 = 0
      · rw [if_pos c23] at H
        have c23b0 : (a0_6 == 0) = true := beq_iff_eq.mpr c23
        have c23b1 : (a0_6 != 0) = false := bne_eq_false_iff_eq.mpr c23
        clear c23
        obtain rfl := Option.some.inj H
        go_enter Try.func23, Try.ntmps23
        go_wp2_with (first | ((with_reducible refine gate_dst (N := 1) rfl ?_); refine box_event ?hg (N := 1) ?hd (cs := #[.int .i64 a0_0, .int .i64 a0_1, .int .i64 a0_2, .int .i64 a0_3, .int .i64 a0_4, .int .i32 a0_5, .int .i64 a0_6]) (t := 37) ?hr ?_; (case hd => rfl); (case hg => rfl); (case hr => first | (go_simp; done) | (go_simp; rfl)); intro gb117 hg w24 hbox hb; have n0_ := Aside0.mk (below_step (by repeat (first | (with_reducible first | exact HB.out | apply below_alloc | apply pw_below_drewN | apply below_drew1) | exact HB.out)) hb); have n1_ := Aside0.mk (hbox); have n2_ := Aside0.mk ((by rw [hg]; exact (below_size (by repeat (first | (with_reducible first | exact HB.out | apply below_alloc | apply pw_below_drewN | apply below_drew1) | exact HB.out))) : w.heap.size ≤ gb117)); have n3_ := Aside0.mk ((by rw [hg]; exact (below_size (by repeat (first | (with_reducible first | exact HB.out | apply below_alloc | apply pw_below_drewN | apply below_drew1) | exact HB.out))) : w.heap.size ≤ gb117)); clear HB; have HB := n0_; have BK117 := n1_; have GW117 := n2_; have GE117 := n3_; clear n0_ n1_ n2_ n3_; clear hb hbox hg; have hcz25_0 : w24.cell? ⟨gb117, 0, none⟩ = some (.int .i64 a0_0) := (blk_cell BK117.out 0).trans rfl; have hcz25_1 : w24.cell? ⟨gb117, 1, none⟩ = some (.int .i64 a0_1) := (blk_cell BK117.out 1).trans rfl; have hcz25_2 : w24.cell? ⟨gb117, 2, none⟩ = some (.int .i64 a0_2) := (blk_cell BK117.out 2).trans rfl; have hcz25_3 : w24.cell? ⟨gb117, 3, none⟩ = some (.int .i64 a0_3) := (blk_cell BK117.out 3).trans rfl; have hcz25_4 : w24.cell? ⟨gb117, 4, none⟩ = some (.int .i64 a0_4) := (blk_cell BK117.out 4).trans rfl; have hcz25_5 : w24.cell? ⟨gb117, 5, none⟩ = some (.int .i32 a0_5) := (blk_cell BK117.out 5).trans rfl; have hcz25_6 : w24.cell? ⟨gb117, 6, none⟩ = some (.int .i64 a0_6) := (blk_cell BK117.out 6).trans rfl; have hfz25_0 := blk_frozen BK117.out 0; have hfz25_1 := blk_frozen BK117.out 1; have hfz25_2 := blk_frozen BK117.out 2; have hfz25_3 := blk_frozen BK117.out 3; have hfz25_4 := blk_frozen BK117.out 4; have hfz25_5 := blk_frozen BK117.out 5; have hfz25_6 := blk_frozen BK117.out 6))
        go_ret
        exact ⟨by first | rfl | (simp [errW_none, errW_some] <;> rfl) | (simp [*, errW_none, errW_some] <;> rfl), by repeat (first | (with_reducible first | exact HB.out | apply below_alloc | apply pw_below_drewN | apply below_drew1 | refine below_set ?_ GE117.out) | exact HB.out)⟩
      · rw [if_neg c23] at H
        have c23b0 : (a0_6 == 0) = false := beq_eq_false_iff_ne.mpr c23
        have c23b1 : (a0_6 != 0) = true := bne_iff_ne.mpr c23
        obtain rfl := Option.some.inj H
        go_enter Try.func23, Try.ntmps23
        go_wp2_with (first | ((with_reducible refine gate_dst (N := 1) rfl ?_); refine box_event ?hg (N := 1) ?hd (cs := #[.int .i64 a0_0, .int .i64 a0_1, .int .i64 a0_2, .int .i64 a0_3, .int .i64 a0_4, .int .i32 a0_5, .int .i64 a0_6]) (t := 37) ?hr ?_; (case hd => rfl); (case hg => rfl); (case hr => first | (go_simp; done) | (go_simp; rfl)); intro gb117 hg w26 hbox hb; have n0_ := Aside0.mk (below_step (by repeat (first | (with_reducible first | exact HB.out | apply below_alloc | apply pw_below_drewN | apply below_drew1) | exact HB.out)) hb); have n1_ := Aside0.mk (hbox); have n2_ := Aside0.mk ((by rw [hg]; exact (below_size (by repeat (first | (with_reducible first | exact HB.out | apply below_alloc | apply pw_below_drewN | apply below_drew1) | exact HB.out))) : w.heap.size ≤ gb117)); have n3_ := Aside0.mk ((by rw [hg]; exact (below_size (by repeat (first | (with_reducible first | exact HB.out | apply below_alloc | apply pw_below_drewN | apply below_drew1) | exact HB.out))) : w.heap.size ≤ gb117)); clear HB; have HB := n0_; have BK117 := n1_; have GW117 := n2_; have GE117 := n3_; clear n0_ n1_ n2_ n3_; clear hb hbox hg; have hcz27_0 : w26.cell? ⟨gb117, 0, none⟩ = some (.int .i64 a0_0) := (blk_cell BK117.out 0).trans rfl; have hcz27_1 : w26.cell? ⟨gb117, 1, none⟩ = some (.int .i64 a0_1) := (blk_cell BK117.out 1).trans rfl; have hcz27_2 : w26.cell? ⟨gb117, 2, none⟩ = some (.int .i64 a0_2) := (blk_cell BK117.out 2).trans rfl; have hcz27_3 : w26.cell? ⟨gb117, 3, none⟩ = some (.int .i64 a0_3) := (blk_cell BK117.out 3).trans rfl; have hcz27_4 : w26.cell? ⟨gb117, 4, none⟩ = some (.int .i64 a0_4) := (blk_cell BK117.out 4).trans rfl; have hcz27_5 : w26.cell? ⟨gb117, 5, none⟩ = some (.int .i32 a0_5) := (blk_cell BK117.out 5).trans rfl; have hcz27_6 : w26.cell? ⟨gb117, 6, none⟩ = some (.int .i64 a0_6) := (blk_cell BK117.out 6).trans rfl; have hfz27_0 := blk_frozen BK117.out 0; have hfz27_1 := blk_frozen BK117.out 1; have hfz27_2 := blk_frozen BK117.out 2; have hfz27_3 := blk_frozen BK117.out 3; have hfz27_4 := blk_frozen BK117.out 4; have hfz27_5 := blk_frozen BK117.out 5; have hfz27_6 := blk_frozen BK117.out 6))
        go_ret
        exact ⟨by first | rfl | (simp [errW_none, errW_some] <;> rfl) | (simp [*, errW_none, errW_some] <;> rfl), by repeat (first | (with_reducible first | exact HB.out | apply below_alloc | apply pw_below_drewN | apply below_drew1 | refine below_set ?_ GE117.out) | exact HB.out)⟩
    · rw [if_neg c22] at H
      have c22b0 : decide (0 < a0_0) = false := decide_eq_false c22
      clear c22
      obtain rfl := Option.some.inj H
      go_enter Try.func23, Try.ntmps23
      go_wp2_with (first | ((with_reducible refine gate_dst (N := 1) rfl ?_); refine box_event ?hg (N := 1) ?hd (cs := #[.int .i64 a0_0, .int .i64 a0_1, .int .i64 a0_2, .int .i64 a0_3, .int .i64 a0_4, .int .i32 a0_5, .int .i64 a0_6]) (t := 37) ?hr ?_; (case hd => rfl); (case hg => rfl); (case hr => first | (go_simp; done) | (go_simp; rfl)); intro gb117 hg w28 hbox hb; have n0_ := Aside0.mk (below_step (by repeat (first | (with_reducible first | exact HB.out | apply below_alloc | apply pw_below_drewN | apply below_drew1) | exact HB.out)) hb); have n1_ := Aside0.mk (hbox); have n2_ := Aside0.mk ((by rw [hg]; exact (below_size (by repeat (first | (with_reducible first | exact HB.out | apply below_alloc | apply pw_below_drewN | apply below_drew1) | exact HB.out))) : w.heap.size ≤ gb117)); have n3_ := Aside0.mk ((by rw [hg]; exact (below_size (by repeat (first | (with_reducible first | exact HB.out | apply below_alloc | apply pw_below_drewN | apply below_drew1) | exact HB.out))) : w.heap.size ≤ gb117)); clear HB; have HB := n0_; have BK117 := n1_; have GW117 := n2_; have GE117 := n3_; clear n0_ n1_ n2_ n3_; clear hb hbox hg; have hcz29_0 : w28.cell? ⟨gb117, 0, none⟩ = some (.int .i64 a0_0) := (blk_cell BK117.out 0).trans rfl; have hcz29_1 : w28.cell? ⟨gb117, 1, none⟩ = some (.int .i64 a0_1) := (blk_cell BK117.out 1).trans rfl; have hcz29_2 : w28.cell? ⟨gb117, 2, none⟩ = some (.int .i64 a0_2) := (blk_cell BK117.out 2).trans rfl; have hcz29_3 : w28.cell? ⟨gb117, 3, none⟩ = some (.int .i64 a0_3) := (blk_cell BK117.out 3).trans rfl; have hcz29_4 : w28.cell? ⟨gb117, 4, none⟩ = some (.int .i64 a0_4) := (blk_cell BK117.out 4).trans rfl; have hcz29_5 : w28.cell? ⟨gb117, 5, none⟩ = some (.int .i32 a0_5) := (blk_cell BK117.out 5).trans rfl; have hcz29_6 : w28.cell? ⟨gb117, 6, none⟩ = some (.int .i64 a0_6) := (blk_cell BK117.out 6).trans rfl; have hfz29_0 := blk_frozen BK117.out 0; have hfz29_1 := blk_frozen BK117.out 1; have hfz29_2 := blk_frozen BK117.out 2; have hfz29_3 := blk_frozen BK117.out 3; have hfz29_4 := blk_frozen BK117.out 4; have hfz29_5 := blk_frozen BK117.out 5; have hfz29_6 := blk_frozen BK117.out 6))
      go_ret
      exact ⟨by first | rfl | (simp [errW_none, errW_some] <;> rfl) | (simp [*, errW_none, errW_some] <;> rfl), by repeat (first | (with_reducible first | exact HB.out | apply below_alloc | apply pw_below_drewN | apply below_drew1 | refine below_set ?_ GE117.out) | exact HB.out)⟩
def asm_size.f (a0_0 : Int) (a0_1 : Int) (a0_2 : Int) (a0_3 : Int) (a0_4 : Int) (a0_5 : Int) (a0_6 : Int) (a1 : Bool) : Option (Int) := if a0_0 > 0 then (some 0) else (if a1 = true then (some 2) else (some 1))
set_option maxHeartbeats 8000000 in
set_option maxRecDepth 100000 in
theorem asm_size.calls (a0_0 : Int) (a0_1 : Int) (a0_2 : Int) (a0_3 : Int) (a0_4 : Int) (a0_5 : Int) (a0_6 : Int) (a1 : Bool) (r : Int) (w : World) (h : asm_size.f a0_0 a0_1 a0_2 a0_3 a0_4 a0_5 a0_6 a1 = some r) :
    Calls Try.prog 36 #[.agg #[.int .i64 a0_0, .int .i64 a0_1, .int .i64 a0_2, .int .i64 a0_3, .int .i64 a0_4, .int .i32 a0_5, .int .i64 a0_6], .bool a1] w fun e w' => e = .returned (.int .i64 r) ∧ Below w.heap.size w w' := by
  have hu37 := Try.underlying37
  have HB := Aside0.mk (Below.refl w.heap.size w)
  have H : (if a0_0 > 0 then (some 0) else (if a1 = true then (some 2) else (some 1))) = some r := h
  clear h
  by_cases c3 : a0_0 > 0
  · rw [if_pos c3] at H
    have c3b0 : decide (0 < a0_0) = true := decide_eq_true c3
    clear c3
    obtain rfl := Option.some.inj H
    go_enter Try.func36, Try.ntmps36
    go_wp2_with (first | ((with_reducible refine gate_dst (N := 2) rfl ?_); refine box_event ?hg (N := 2) ?hd (cs := #[.int .i64 a0_0, .int .i64 a0_1, .int .i64 a0_2, .int .i64 a0_3, .int .i64 a0_4, .int .i32 a0_5, .int .i64 a0_6]) (t := 37) ?hr ?_; (case hd => rfl); (case hg => rfl); (case hr => first | (go_simp; done) | (go_simp; rfl)); intro gb121 hg w4 hbox hb; have n0_ := Aside0.mk (below_step (by repeat (first | (with_reducible first | exact HB.out | apply below_alloc | apply pw_below_drewN | apply below_drew1) | exact HB.out)) hb); have n1_ := Aside0.mk (hbox); have n2_ := Aside0.mk ((by rw [hg]; exact (below_size (by repeat (first | (with_reducible first | exact HB.out | apply below_alloc | apply pw_below_drewN | apply below_drew1) | exact HB.out))) : w.heap.size ≤ gb121)); have n3_ := Aside0.mk ((by rw [hg]; exact (below_size (by repeat (first | (with_reducible first | exact HB.out | apply below_alloc | apply pw_below_drewN | apply below_drew1) | exact HB.out))) : w.heap.size ≤ gb121)); clear HB; have HB := n0_; have BK121 := n1_; have GW121 := n2_; have GE121 := n3_; clear n0_ n1_ n2_ n3_; clear hb hbox hg; have hcz5_0 : w4.cell? ⟨gb121, 0, none⟩ = some (.int .i64 a0_0) := (blk_cell BK121.out 0).trans rfl; have hcz5_1 : w4.cell? ⟨gb121, 1, none⟩ = some (.int .i64 a0_1) := (blk_cell BK121.out 1).trans rfl; have hcz5_2 : w4.cell? ⟨gb121, 2, none⟩ = some (.int .i64 a0_2) := (blk_cell BK121.out 2).trans rfl; have hcz5_3 : w4.cell? ⟨gb121, 3, none⟩ = some (.int .i64 a0_3) := (blk_cell BK121.out 3).trans rfl; have hcz5_4 : w4.cell? ⟨gb121, 4, none⟩ = some (.int .i64 a0_4) := (blk_cell BK121.out 4).trans rfl; have hcz5_5 : w4.cell? ⟨gb121, 5, none⟩ = some (.int .i32 a0_5) := (blk_cell BK121.out 5).trans rfl; have hcz5_6 : w4.cell? ⟨gb121, 6, none⟩ = some (.int .i64 a0_6) := (blk_cell BK121.out 6).trans rfl; have hfz5_0 := blk_frozen BK121.out 0; have hfz5_1 := blk_frozen BK121.out 1; have hfz5_2 := blk_frozen BK121.out 2; have hfz5_3 := blk_frozen BK121.out 3; have hfz5_4 := blk_frozen BK121.out 4; have hfz5_5 := blk_frozen BK121.out 5; have hfz5_6 := blk_frozen BK121.out 6))
    go_ret
    exact ⟨by first | rfl | (simp [errW_none, errW_some] <;> rfl) | (simp [*, errW_none, errW_some] <;> rfl), by repeat (first | (with_reducible first | exact HB.out | apply below_alloc | apply pw_below_drewN | apply below_drew1 | refine below_set ?_ GE121.out) | exact HB.out)⟩
  · rw [if_neg c3] at H
    have c3b0 : decide (0 < a0_0) = false := decide_eq_false c3
    clear c3
    by_cases c6 : a1 = true
    · subst c6
      have H1 : (some 2) = some r := by rw [if_pos rfl] at H; exact H
      clear H
      have H := H1
      clear H1
      obtain rfl := Option.some.inj H
      go_enter Try.func36, Try.ntmps36
      go_wp2_with (first | ((with_reducible refine gate_dst (N := 2) rfl ?_); refine box_event ?hg (N := 2) ?hd (cs := #[.int .i64 a0_0, .int .i64 a0_1, .int .i64 a0_2, .int .i64 a0_3, .int .i64 a0_4, .int .i32 a0_5, .int .i64 a0_6]) (t := 37) ?hr ?_; (case hd => rfl); (case hg => rfl); (case hr => first | (go_simp; done) | (go_simp; rfl)); intro gb121 hg w7 hbox hb; have n0_ := Aside0.mk (below_step (by repeat (first | (with_reducible first | exact HB.out | apply below_alloc | apply pw_below_drewN | apply below_drew1) | exact HB.out)) hb); have n1_ := Aside0.mk (hbox); have n2_ := Aside0.mk ((by rw [hg]; exact (below_size (by repeat (first | (with_reducible first | exact HB.out | apply below_alloc | apply pw_below_drewN | apply below_drew1) | exact HB.out))) : w.heap.size ≤ gb121)); have n3_ := Aside0.mk ((by rw [hg]; exact (below_size (by repeat (first | (with_reducible first | exact HB.out | apply below_alloc | apply pw_below_drewN | apply below_drew1) | exact HB.out))) : w.heap.size ≤ gb121)); clear HB; have HB := n0_; have BK121 := n1_; have GW121 := n2_; have GE121 := n3_; clear n0_ n1_ n2_ n3_; clear hb hbox hg; have hcz8_0 : w7.cell? ⟨gb121, 0, none⟩ = some (.int .i64 a0_0) := (blk_cell BK121.out 0).trans rfl; have hcz8_1 : w7.cell? ⟨gb121, 1, none⟩ = some (.int .i64 a0_1) := (blk_cell BK121.out 1).trans rfl; have hcz8_2 : w7.cell? ⟨gb121, 2, none⟩ = some (.int .i64 a0_2) := (blk_cell BK121.out 2).trans rfl; have hcz8_3 : w7.cell? ⟨gb121, 3, none⟩ = some (.int .i64 a0_3) := (blk_cell BK121.out 3).trans rfl; have hcz8_4 : w7.cell? ⟨gb121, 4, none⟩ = some (.int .i64 a0_4) := (blk_cell BK121.out 4).trans rfl; have hcz8_5 : w7.cell? ⟨gb121, 5, none⟩ = some (.int .i32 a0_5) := (blk_cell BK121.out 5).trans rfl; have hcz8_6 : w7.cell? ⟨gb121, 6, none⟩ = some (.int .i64 a0_6) := (blk_cell BK121.out 6).trans rfl; have hfz8_0 := blk_frozen BK121.out 0; have hfz8_1 := blk_frozen BK121.out 1; have hfz8_2 := blk_frozen BK121.out 2; have hfz8_3 := blk_frozen BK121.out 3; have hfz8_4 := blk_frozen BK121.out 4; have hfz8_5 := blk_frozen BK121.out 5; have hfz8_6 := blk_frozen BK121.out 6))
      go_ret
      exact ⟨by first | rfl | (simp [errW_none, errW_some] <;> rfl) | (simp [*, errW_none, errW_some] <;> rfl), by repeat (first | (with_reducible first | exact HB.out | apply below_alloc | apply pw_below_drewN | apply below_drew1 | refine below_set ?_ GE121.out) | exact HB.out)⟩
    · replace c6 := Bool.eq_false_iff.mpr c6
      subst c6
      have H1 : (some 1) = some r := by rw [if_neg (show ¬ (false = true) by decide)] at H; exact H
      clear H
      have H := H1
      clear H1
      obtain rfl := Option.some.inj H
      go_enter Try.func36, Try.ntmps36
      go_wp2_with (first | ((with_reducible refine gate_dst (N := 2) rfl ?_); refine box_event ?hg (N := 2) ?hd (cs := #[.int .i64 a0_0, .int .i64 a0_1, .int .i64 a0_2, .int .i64 a0_3, .int .i64 a0_4, .int .i32 a0_5, .int .i64 a0_6]) (t := 37) ?hr ?_; (case hd => rfl); (case hg => rfl); (case hr => first | (go_simp; done) | (go_simp; rfl)); intro gb121 hg w9 hbox hb; have n0_ := Aside0.mk (below_step (by repeat (first | (with_reducible first | exact HB.out | apply below_alloc | apply pw_below_drewN | apply below_drew1) | exact HB.out)) hb); have n1_ := Aside0.mk (hbox); have n2_ := Aside0.mk ((by rw [hg]; exact (below_size (by repeat (first | (with_reducible first | exact HB.out | apply below_alloc | apply pw_below_drewN | apply below_drew1) | exact HB.out))) : w.heap.size ≤ gb121)); have n3_ := Aside0.mk ((by rw [hg]; exact (below_size (by repeat (first | (with_reducible first | exact HB.out | apply below_alloc | apply pw_below_drewN | apply below_drew1) | exact HB.out))) : w.heap.size ≤ gb121)); clear HB; have HB := n0_; have BK121 := n1_; have GW121 := n2_; have GE121 := n3_; clear n0_ n1_ n2_ n3_; clear hb hbox hg; have hcz10_0 : w9.cell? ⟨gb121, 0, none⟩ = some (.int .i64 a0_0) := (blk_cell BK121.out 0).trans rfl; have hcz10_1 : w9.cell? ⟨gb121, 1, none⟩ = some (.int .i64 a0_1) := (blk_cell BK121.out 1).trans rfl; have hcz10_2 : w9.cell? ⟨gb121, 2, none⟩ = some (.int .i64 a0_2) := (blk_cell BK121.out 2).trans rfl; have hcz10_3 : w9.cell? ⟨gb121, 3, none⟩ = some (.int .i64 a0_3) := (blk_cell BK121.out 3).trans rfl; have hcz10_4 : w9.cell? ⟨gb121, 4, none⟩ = some (.int .i64 a0_4) := (blk_cell BK121.out 4).trans rfl; have hcz10_5 : w9.cell? ⟨gb121, 5, none⟩ = some (.int .i32 a0_5) := (blk_cell BK121.out 5).trans rfl; have hcz10_6 : w9.cell? ⟨gb121, 6, none⟩ = some (.int .i64 a0_6) := (blk_cell BK121.out 6).trans rfl; have hfz10_0 := blk_frozen BK121.out 0; have hfz10_1 := blk_frozen BK121.out 1; have hfz10_2 := blk_frozen BK121.out 2; have hfz10_3 := blk_frozen BK121.out 3; have hfz10_4 := blk_frozen BK121.out 4; have hfz10_5 := blk_frozen BK121.out 5; have hfz10_6 := blk_frozen BK121.out 6))
      go_ret
      exact ⟨by first | rfl | (simp [errW_none, errW_some] <;> rfl) | (simp [*, errW_none, errW_some] <;> rfl), by repeat (first | (with_reducible first | exact HB.out | apply below_alloc | apply pw_below_drewN | apply below_drew1 | refine below_set ?_ GE121.out) | exact HB.out)⟩
-- NOT PRINTED: function 28 (asm_layout_place)
-- NOT PRINTED: function 17 (asm_laid)
-- NOT PRINTED: function 18 (asm_layout_words)
def isa_Encode.f (k : Nat) (a0_0 : Int) (a0_1 : Int) (a0_2 : Int) (a0_3 : Int) (a0_4 : Int) : Option (Int × Int) := (isa_Check.f k a0_0 a0_1 a0_2 a0_3 a0_4).bind fun t123 => (if t123 = 0 then ((isa_parts.f k a0_0).bind fun t124 => (if (Go.bits .and .i64 t124 32) = 0 then (some (Go.bits .or .u32 (Go.bits .or .u32 (Go.bits .or .u32 (Go.bits .or .u32 ((((a0_0) % 4294967296) * 16777216) % 4294967296) ((((a0_1) % 4294967296) * 1048576) % 4294967296)) ((((a0_2) % 4294967296) * 65536) % 4294967296)) ((((a0_3) % 4294967296) * 4096) % 4294967296)) (Go.bits .and .u32 ((a0_4) % 4294967296) 65535), 0)) else (some (Go.bits .or .u32 (Go.bits .or .u32 (Go.bits .or .u32 (Go.bits .or .u32 ((((a0_0) % 4294967296) * 16777216) % 4294967296) ((((a0_1) % 4294967296) * 1048576) % 4294967296)) ((((a0_2) % 4294967296) * 65536) % 4294967296)) ((((a0_3) % 4294967296) * 4096) % 4294967296)) (Go.bits .and .u32 ((a0_4) % 4294967296) 16777215), 0)))) else (some (0, t123)))
set_option maxHeartbeats 8000000 in
set_option maxRecDepth 100000 in
theorem isa_Encode.calls (k : Nat) (a0_0 : Int) (a0_1 : Int) (a0_2 : Int) (a0_3 : Int) (a0_4 : Int) (r1 : Int) (r2 : Int) (w : World) (h : isa_Encode.f k a0_0 a0_1 a0_2 a0_3 a0_4 = some (r1, r2)) :
    Calls Try.prog 19 #[.agg #[.int .i64 a0_0, .int .i64 a0_1, .int .i64 a0_2, .int .i64 a0_3, .int .i32 a0_4]] w fun e w' => e = .returned (.tuple #[.int .u32 r1, .int .i64 r2]) ∧ Below w.heap.size w w' := by
  have hu24 := Try.underlying24
  have HB := Aside0.mk (Below.refl w.heap.size w)
  have H : ((isa_Check.f k a0_0 a0_1 a0_2 a0_3 a0_4).bind fun t123 => (if t123 = 0 then ((isa_parts.f k a0_0).bind fun t124 => (if (Go.bits .and .i64 t124 32) = 0 then (some (Go.bits .or .u32 (Go.bits .or .u32 (Go.bits .or .u32 (Go.bits .or .u32 ((((a0_0) % 4294967296) * 16777216) % 4294967296) ((((a0_1) % 4294967296) * 1048576) % 4294967296)) ((((a0_2) % 4294967296) * 65536) % 4294967296)) ((((a0_3) % 4294967296) * 4096) % 4294967296)) (Go.bits .and .u32 ((a0_4) % 4294967296) 65535), 0)) else (some (Go.bits .or .u32 (Go.bits .or .u32 (Go.bits .or .u32 (Go.bits .or .u32 ((((a0_0) % 4294967296) * 16777216) % 4294967296) ((((a0_1) % 4294967296) * 1048576) % 4294967296)) ((((a0_2) % 4294967296) * 65536) % 4294967296)) ((((a0_3) % 4294967296) * 4096) % 4294967296)) (Go.bits .and .u32 ((a0_4) % 4294967296) 16777215), 0)))) else (some (0, t123)))) = some (r1, r2) := h
  clear h
  replace H := Option.bind_eq_some_iff.mp H
  obtain ⟨t123, A20, H⟩ := H
  replace H : (if t123 = 0 then ((isa_parts.f k a0_0).bind fun t124 => (if (Go.bits .and .i64 t124 32) = 0 then (some (Go.bits .or .u32 (Go.bits .or .u32 (Go.bits .or .u32 (Go.bits .or .u32 ((((a0_0) % 4294967296) * 16777216) % 4294967296) ((((a0_1) % 4294967296) * 1048576) % 4294967296)) ((((a0_2) % 4294967296) * 65536) % 4294967296)) ((((a0_3) % 4294967296) * 4096) % 4294967296)) (Go.bits .and .u32 ((a0_4) % 4294967296) 65535), 0)) else (some (Go.bits .or .u32 (Go.bits .or .u32 (Go.bits .or .u32 (Go.bits .or .u32 ((((a0_0) % 4294967296) * 16777216) % 4294967296) ((((a0_1) % 4294967296) * 1048576) % 4294967296)) ((((a0_2) % 4294967296) * 65536) % 4294967296)) ((((a0_3) % 4294967296) * 4096) % 4294967296)) (Go.bits .and .u32 ((a0_4) % 4294967296) 16777215), 0)))) else (some (0, t123))) = some (r1, r2) := H
  have A2 := Aside0.mk A20
  clear A20
  by_cases c3 : t123 = 0
  · rw [if_pos c3] at H
    have c3b0 : (t123 == 0) = true := beq_iff_eq.mpr c3
    have c3b1 : (t123 != 0) = false := bne_eq_false_iff_eq.mpr c3
    clear c3
    replace H := Option.bind_eq_some_iff.mp H
    obtain ⟨t124, A40, H⟩ := H
    replace H : (if (Go.bits .and .i64 t124 32) = 0 then (some (Go.bits .or .u32 (Go.bits .or .u32 (Go.bits .or .u32 (Go.bits .or .u32 ((((a0_0) % 4294967296) * 16777216) % 4294967296) ((((a0_1) % 4294967296) * 1048576) % 4294967296)) ((((a0_2) % 4294967296) * 65536) % 4294967296)) ((((a0_3) % 4294967296) * 4096) % 4294967296)) (Go.bits .and .u32 ((a0_4) % 4294967296) 65535), 0)) else (some (Go.bits .or .u32 (Go.bits .or .u32 (Go.bits .or .u32 (Go.bits .or .u32 ((((a0_0) % 4294967296) * 16777216) % 4294967296) ((((a0_1) % 4294967296) * 1048576) % 4294967296)) ((((a0_2) % 4294967296) * 65536) % 4294967296)) ((((a0_3) % 4294967296) * 4096) % 4294967296)) (Go.bits .and .u32 ((a0_4) % 4294967296) 16777215), 0))) = some (r1, r2) := H
    have A4 := Aside0.mk A40
    clear A40
    by_cases c5 : (Go.bits .and .i64 t124 32) = 0
    · rw [if_pos c5] at H
      have c5b0 : ((Go.bits .and .i64 t124 32) == 0) = true := beq_iff_eq.mpr c5
      have c5b1 : ((Go.bits .and .i64 t124 32) != 0) = false := bne_eq_false_iff_eq.mpr c5
      clear c5
      simp only [Option.some.injEq, Prod.mk.injEq] at H
      obtain ⟨rfl, rfl⟩ := H
      go_enter Try.func19, Try.ntmps19
      go_wp2_with (first | ((with_reducible refine gate_dst (N := 1) rfl ?_); refine box_event ?hg (N := 1) ?hd (cs := #[.int .i64 a0_0, .int .i64 a0_1, .int .i64 a0_2, .int .i64 a0_3, .int .i32 a0_4]) (t := 24) ?hr ?_; (case hd => rfl); (case hg => rfl); (case hr => first | (go_simp; done) | (go_simp; rfl)); intro gb122 hg w6 hbox hb; have n0_ := Aside0.mk (below_step (by repeat (first | (with_reducible first | exact HB.out | apply below_alloc | apply pw_below_drewN | apply below_drew1) | exact HB.out)) hb); have n1_ := Aside0.mk (hbox); have n2_ := Aside0.mk ((by rw [hg]; exact (below_size (by repeat (first | (with_reducible first | exact HB.out | apply below_alloc | apply pw_below_drewN | apply below_drew1) | exact HB.out))) : w.heap.size ≤ gb122)); have n3_ := Aside0.mk ((by rw [hg]; exact (below_size (by repeat (first | (with_reducible first | exact HB.out | apply below_alloc | apply pw_below_drewN | apply below_drew1) | exact HB.out))) : w.heap.size ≤ gb122)); clear HB; have HB := n0_; have BK122 := n1_; have GW122 := n2_; have GE122 := n3_; clear n0_ n1_ n2_ n3_; clear hb hbox hg; have hcz7_0 : w6.cell? ⟨gb122, 0, none⟩ = some (.int .i64 a0_0) := (blk_cell BK122.out 0).trans rfl; have hcz7_1 : w6.cell? ⟨gb122, 1, none⟩ = some (.int .i64 a0_1) := (blk_cell BK122.out 1).trans rfl; have hcz7_2 : w6.cell? ⟨gb122, 2, none⟩ = some (.int .i64 a0_2) := (blk_cell BK122.out 2).trans rfl; have hcz7_3 : w6.cell? ⟨gb122, 3, none⟩ = some (.int .i64 a0_3) := (blk_cell BK122.out 3).trans rfl; have hcz7_4 : w6.cell? ⟨gb122, 4, none⟩ = some (.int .i32 a0_4) := (blk_cell BK122.out 4).trans rfl; have hfz7_0 := blk_frozen BK122.out 0; have hfz7_1 := blk_frozen BK122.out 1; have hfz7_2 := blk_frozen BK122.out 2; have hfz7_3 := blk_frozen BK122.out 3; have hfz7_4 := blk_frozen BK122.out 4) | ((with_reducible refine gate_callee (f := 29) rfl ?_); refine goesL_ (some 7) rfl rfl Try.func29 (by kernel_rfl) rfl #[.agg #[.int .i64 a0_0, .int .i64 a0_1, .int .i64 a0_2, .int .i64 a0_3, .int .i32 a0_4]] rfl (by (try simp only [List.map_toArray, List.map_cons, List.map_nil]); first | done | rfl | (simp only [List.length_drop, List.length_take]; rfl)) ?_; (with_reducible refine (isa_Check.calls k a0_0 a0_1 a0_2 a0_3 a0_4 t123 _ A2.out).mono ?_); rintro e w8 ⟨rfl, hb⟩; refine ⟨_, rfl, ?_⟩; have n0_ := Aside0.mk (blk_below (g := gb122) (o := .cells #[.int .i64 a0_0, .int .i64 a0_1, .int .i64 a0_2, .int .i64 a0_3, .int .i32 a0_4] 24 (0, 0)) (by (with_reducible repeat (first | refine blk_drewN ?_ _ | refine blk_drew ?_ | refine blk_alloc ?_ _)); exact BK122.out) hb); have n1_ := Aside0.mk (below_step (by repeat (first | (with_reducible first | exact HB.out | apply below_alloc | apply pw_below_drewN | apply below_drew1 | refine below_set ?_ GE122.out) | exact HB.out)) hb); clear BK122; clear HB; have BK122 := n0_; have HB := n1_; clear n0_ n1_; (try clear hb); (try clear hb2); (try clear hk); (try clear hi); have hcz9_0 : w8.cell? ⟨gb122, 0, none⟩ = some (.int .i64 a0_0) := (blk_cell BK122.out 0).trans rfl; have hcz9_1 : w8.cell? ⟨gb122, 1, none⟩ = some (.int .i64 a0_1) := (blk_cell BK122.out 1).trans rfl; have hcz9_2 : w8.cell? ⟨gb122, 2, none⟩ = some (.int .i64 a0_2) := (blk_cell BK122.out 2).trans rfl; have hcz9_3 : w8.cell? ⟨gb122, 3, none⟩ = some (.int .i64 a0_3) := (blk_cell BK122.out 3).trans rfl; have hcz9_4 : w8.cell? ⟨gb122, 4, none⟩ = some (.int .i32 a0_4) := (blk_cell BK122.out 4).trans rfl; have hfz9_0 := blk_frozen BK122.out 0; have hfz9_1 := blk_frozen BK122.out 1; have hfz9_2 := blk_frozen BK122.out 2; have hfz9_3 := blk_frozen BK122.out 3; have hfz9_4 := blk_frozen BK122.out 4) | ((with_reducible refine gate_callee (f := 30) rfl ?_); refine goesL_ (some 32) rfl rfl Try.func30 (by kernel_rfl) rfl #[.int .i64 a0_0] rfl (by (try simp only [List.map_toArray, List.map_cons, List.map_nil]); first | done | rfl | (simp only [List.length_drop, List.length_take]; rfl)) ?_; (with_reducible refine (isa_parts.calls k a0_0 t124 _ A4.out).mono ?_); rintro e w' ⟨rfl, ⟨nd, rfl⟩⟩; refine ⟨_, rfl, ?_⟩))
      go_ret2
      exact ⟨by first | rfl | (simp [errW_none, errW_some] <;> rfl) | (simp [*, errW_none, errW_some] <;> rfl), by repeat (first | (with_reducible first | exact HB.out | apply below_alloc | apply pw_below_drewN | apply below_drew1 | refine below_set ?_ GE122.out) | exact HB.out)⟩
    · rw [if_neg c5] at H
      have c5b0 : ((Go.bits .and .i64 t124 32) == 0) = false := beq_eq_false_iff_ne.mpr c5
      have c5b1 : ((Go.bits .and .i64 t124 32) != 0) = true := bne_iff_ne.mpr c5
      simp only [Option.some.injEq, Prod.mk.injEq] at H
      obtain ⟨rfl, rfl⟩ := H
      go_enter Try.func19, Try.ntmps19
      go_wp2_with (first | ((with_reducible refine gate_dst (N := 1) rfl ?_); refine box_event ?hg (N := 1) ?hd (cs := #[.int .i64 a0_0, .int .i64 a0_1, .int .i64 a0_2, .int .i64 a0_3, .int .i32 a0_4]) (t := 24) ?hr ?_; (case hd => rfl); (case hg => rfl); (case hr => first | (go_simp; done) | (go_simp; rfl)); intro gb122 hg w10 hbox hb; have n0_ := Aside0.mk (below_step (by repeat (first | (with_reducible first | exact HB.out | apply below_alloc | apply pw_below_drewN | apply below_drew1) | exact HB.out)) hb); have n1_ := Aside0.mk (hbox); have n2_ := Aside0.mk ((by rw [hg]; exact (below_size (by repeat (first | (with_reducible first | exact HB.out | apply below_alloc | apply pw_below_drewN | apply below_drew1) | exact HB.out))) : w.heap.size ≤ gb122)); have n3_ := Aside0.mk ((by rw [hg]; exact (below_size (by repeat (first | (with_reducible first | exact HB.out | apply below_alloc | apply pw_below_drewN | apply below_drew1) | exact HB.out))) : w.heap.size ≤ gb122)); clear HB; have HB := n0_; have BK122 := n1_; have GW122 := n2_; have GE122 := n3_; clear n0_ n1_ n2_ n3_; clear hb hbox hg; have hcz11_0 : w10.cell? ⟨gb122, 0, none⟩ = some (.int .i64 a0_0) := (blk_cell BK122.out 0).trans rfl; have hcz11_1 : w10.cell? ⟨gb122, 1, none⟩ = some (.int .i64 a0_1) := (blk_cell BK122.out 1).trans rfl; have hcz11_2 : w10.cell? ⟨gb122, 2, none⟩ = some (.int .i64 a0_2) := (blk_cell BK122.out 2).trans rfl; have hcz11_3 : w10.cell? ⟨gb122, 3, none⟩ = some (.int .i64 a0_3) := (blk_cell BK122.out 3).trans rfl; have hcz11_4 : w10.cell? ⟨gb122, 4, none⟩ = some (.int .i32 a0_4) := (blk_cell BK122.out 4).trans rfl; have hfz11_0 := blk_frozen BK122.out 0; have hfz11_1 := blk_frozen BK122.out 1; have hfz11_2 := blk_frozen BK122.out 2; have hfz11_3 := blk_frozen BK122.out 3; have hfz11_4 := blk_frozen BK122.out 4) | ((with_reducible refine gate_callee (f := 29) rfl ?_); refine goesL_ (some 7) rfl rfl Try.func29 (by kernel_rfl) rfl #[.agg #[.int .i64 a0_0, .int .i64 a0_1, .int .i64 a0_2, .int .i64 a0_3, .int .i32 a0_4]] rfl (by (try simp only [List.map_toArray, List.map_cons, List.map_nil]); first | done | rfl | (simp only [List.length_drop, List.length_take]; rfl)) ?_; (with_reducible refine (isa_Check.calls k a0_0 a0_1 a0_2 a0_3 a0_4 t123 _ A2.out).mono ?_); rintro e w12 ⟨rfl, hb⟩; refine ⟨_, rfl, ?_⟩; have n0_ := Aside0.mk (blk_below (g := gb122) (o := .cells #[.int .i64 a0_0, .int .i64 a0_1, .int .i64 a0_2, .int .i64 a0_3, .int .i32 a0_4] 24 (0, 0)) (by (with_reducible repeat (first | refine blk_drewN ?_ _ | refine blk_drew ?_ | refine blk_alloc ?_ _)); exact BK122.out) hb); have n1_ := Aside0.mk (below_step (by repeat (first | (with_reducible first | exact HB.out | apply below_alloc | apply pw_below_drewN | apply below_drew1 | refine below_set ?_ GE122.out) | exact HB.out)) hb); clear BK122; clear HB; have BK122 := n0_; have HB := n1_; clear n0_ n1_; (try clear hb); (try clear hb2); (try clear hk); (try clear hi); have hcz13_0 : w12.cell? ⟨gb122, 0, none⟩ = some (.int .i64 a0_0) := (blk_cell BK122.out 0).trans rfl; have hcz13_1 : w12.cell? ⟨gb122, 1, none⟩ = some (.int .i64 a0_1) := (blk_cell BK122.out 1).trans rfl; have hcz13_2 : w12.cell? ⟨gb122, 2, none⟩ = some (.int .i64 a0_2) := (blk_cell BK122.out 2).trans rfl; have hcz13_3 : w12.cell? ⟨gb122, 3, none⟩ = some (.int .i64 a0_3) := (blk_cell BK122.out 3).trans rfl; have hcz13_4 : w12.cell? ⟨gb122, 4, none⟩ = some (.int .i32 a0_4) := (blk_cell BK122.out 4).trans rfl; have hfz13_0 := blk_frozen BK122.out 0; have hfz13_1 := blk_frozen BK122.out 1; have hfz13_2 := blk_frozen BK122.out 2; have hfz13_3 := blk_frozen BK122.out 3; have hfz13_4 := blk_frozen BK122.out 4) | ((with_reducible refine gate_callee (f := 30) rfl ?_); refine goesL_ (some 32) rfl rfl Try.func30 (by kernel_rfl) rfl #[.int .i64 a0_0] rfl (by (try simp only [List.map_toArray, List.map_cons, List.map_nil]); first | done | rfl | (simp only [List.length_drop, List.length_take]; rfl)) ?_; (with_reducible refine (isa_parts.calls k a0_0 t124 _ A4.out).mono ?_); rintro e w' ⟨rfl, ⟨nd, rfl⟩⟩; refine ⟨_, rfl, ?_⟩))
      go_ret2
      exact ⟨by first | rfl | (simp [errW_none, errW_some] <;> rfl) | (simp [*, errW_none, errW_some] <;> rfl), by repeat (first | (with_reducible first | exact HB.out | apply below_alloc | apply pw_below_drewN | apply below_drew1 | refine below_set ?_ GE122.out) | exact HB.out)⟩
  · rw [if_neg c3] at H
    have c3b0 : (t123 == 0) = false := beq_eq_false_iff_ne.mpr c3
    have c3b1 : (t123 != 0) = true := bne_iff_ne.mpr c3
    simp only [Option.some.injEq, Prod.mk.injEq] at H
    obtain ⟨rfl, rfl⟩ := H
    go_enter Try.func19, Try.ntmps19
    go_wp2_with (first | ((with_reducible refine gate_dst (N := 1) rfl ?_); refine box_event ?hg (N := 1) ?hd (cs := #[.int .i64 a0_0, .int .i64 a0_1, .int .i64 a0_2, .int .i64 a0_3, .int .i32 a0_4]) (t := 24) ?hr ?_; (case hd => rfl); (case hg => rfl); (case hr => first | (go_simp; done) | (go_simp; rfl)); intro gb122 hg w14 hbox hb; have n0_ := Aside0.mk (below_step (by repeat (first | (with_reducible first | exact HB.out | apply below_alloc | apply pw_below_drewN | apply below_drew1) | exact HB.out)) hb); have n1_ := Aside0.mk (hbox); have n2_ := Aside0.mk ((by rw [hg]; exact (below_size (by repeat (first | (with_reducible first | exact HB.out | apply below_alloc | apply pw_below_drewN | apply below_drew1) | exact HB.out))) : w.heap.size ≤ gb122)); have n3_ := Aside0.mk ((by rw [hg]; exact (below_size (by repeat (first | (with_reducible first | exact HB.out | apply below_alloc | apply pw_below_drewN | apply below_drew1) | exact HB.out))) : w.heap.size ≤ gb122)); clear HB; have HB := n0_; have BK122 := n1_; have GW122 := n2_; have GE122 := n3_; clear n0_ n1_ n2_ n3_; clear hb hbox hg; have hcz15_0 : w14.cell? ⟨gb122, 0, none⟩ = some (.int .i64 a0_0) := (blk_cell BK122.out 0).trans rfl; have hcz15_1 : w14.cell? ⟨gb122, 1, none⟩ = some (.int .i64 a0_1) := (blk_cell BK122.out 1).trans rfl; have hcz15_2 : w14.cell? ⟨gb122, 2, none⟩ = some (.int .i64 a0_2) := (blk_cell BK122.out 2).trans rfl; have hcz15_3 : w14.cell? ⟨gb122, 3, none⟩ = some (.int .i64 a0_3) := (blk_cell BK122.out 3).trans rfl; have hcz15_4 : w14.cell? ⟨gb122, 4, none⟩ = some (.int .i32 a0_4) := (blk_cell BK122.out 4).trans rfl; have hfz15_0 := blk_frozen BK122.out 0; have hfz15_1 := blk_frozen BK122.out 1; have hfz15_2 := blk_frozen BK122.out 2; have hfz15_3 := blk_frozen BK122.out 3; have hfz15_4 := blk_frozen BK122.out 4) | ((with_reducible refine gate_callee (f := 29) rfl ?_); refine goesL_ (some 7) rfl rfl Try.func29 (by kernel_rfl) rfl #[.agg #[.int .i64 a0_0, .int .i64 a0_1, .int .i64 a0_2, .int .i64 a0_3, .int .i32 a0_4]] rfl (by (try simp only [List.map_toArray, List.map_cons, List.map_nil]); first | done | rfl | (simp only [List.length_drop, List.length_take]; rfl)) ?_; (with_reducible refine (isa_Check.calls k a0_0 a0_1 a0_2 a0_3 a0_4 t123 _ A2.out).mono ?_); rintro e w16 ⟨rfl, hb⟩; refine ⟨_, rfl, ?_⟩; have n0_ := Aside0.mk (blk_below (g := gb122) (o := .cells #[.int .i64 a0_0, .int .i64 a0_1, .int .i64 a0_2, .int .i64 a0_3, .int .i32 a0_4] 24 (0, 0)) (by (with_reducible repeat (first | refine blk_drewN ?_ _ | refine blk_drew ?_ | refine blk_alloc ?_ _)); exact BK122.out) hb); have n1_ := Aside0.mk (below_step (by repeat (first | (with_reducible first | exact HB.out | apply below_alloc | apply pw_below_drewN | apply below_drew1 | refine below_set ?_ GE122.out) | exact HB.out)) hb); clear BK122; clear HB; have BK122 := n0_; have HB := n1_; clear n0_ n1_; (try clear hb); (try clear hb2); (try clear hk); (try clear hi)))
    go_ret2
    exact ⟨by first | rfl | (simp [errW_none, errW_some] <;> rfl) | (simp [*, errW_none, errW_some] <;> rfl), by repeat (first | (with_reducible first | exact HB.out | apply below_alloc | apply pw_below_drewN | apply below_drew1 | refine below_set ?_ GE122.out) | exact HB.out)⟩
end Go.Proofs.Ytdhmnjoceeolcaa.GF
end
section
namespace Go.Proofs.Ytdhmnjoceeolcaa.Asm
open Go.RowKit Go.Proofs.YtdhmnjoceeolcaaW.PrintWords Go.Proofs.YtdhmnjoceeolcaaW.PrintLast Go.Proofs.YtdhmnjoceeolcaaW.PrintMore Go.Proofs.Ytdhmnjoceeolcaa.GF
set_option linter.unusedVariables false
set_option linter.unusedSimpArgs false
abbrev Mm := List (Int × Int)
/-- What stands at a key. -/
def get : Mm → Int → Option Int
  | [], _ => none
  | p :: r, k => if p.1 = k then some p.2 else get r k
def up : Mm → Int → Int → Mm
  | [], k, x => [(k, x)]
  | p :: r, k, x => if p.1 = k then (k, x) :: r else p :: up r k x
theorem get_up (k x k' : Int) : ∀ es : Mm, get (up es k x) k' = if k' = k then some x else get es k'
  | [] => by simp only [up, get]; by_cases h : k = k' <;> simp [h]; intro e; exact absurd e.symm h
  | p :: r => by
    unfold up
    by_cases h : p.1 = k
    · rw [if_pos h]
      by_cases h2 : k' = k
      · rw [if_pos h2, get, if_pos h2.symm]
      · rw [if_neg h2, get, if_neg (fun e => h2 e.symm), get, if_neg (fun e => h2 (by rw [← e, h]))]
    · rw [if_neg h, get, get_up k x k' r]
      by_cases h3 : p.1 = k'
      · rw [if_pos h3, if_neg (fun e => h (by rw [h3, e])), get, if_pos h3]
      · rw [if_neg h3]
        by_cases h2 : k' = k
        · rw [if_pos h2]
          rw [if_pos h2]
        · rw [if_neg h2, if_neg h2, get, if_neg h3]
def vals (es : Mm) : List (Value × Value) := es.map fun p => (Value.int .i64 p.1, Value.int .i64 p.2)
/-- The map of a block. -/
def Mp (w : World) (m : Nat) (es : Mm) : Prop :=
  ∃ ents clock, w.heap[m]? = some (.map ents clock) ∧ ents.toList.map (fun x => (x.key, x.val)) = vals es
theorem find_get : ∀ (l : List MapEntry) (es : Mm) (k x : Int) (i : Nat), l.map (fun x => (x.key, x.val)) = vals es →
    (get es k = none ∧ up es k x = es ++ [(k, x)] ∧ Instr.findNow (.int .i64) (.int .i64 k) l i = some none) ∨
    (∃ v j, get es k = some v ∧ Instr.findNow (.int .i64) (.int .i64 k) l i = some (some (i + j, .int .i64 v)) ∧ up es k x = es.set j (k, x) ∧ ∃ e, l[j]? = some e ∧ e.key = .int .i64 k)
  | [], [], k, x, i, _ => .inl ⟨rfl, rfl, rfl⟩
  | [], p :: es, k, x, i, h => by simp [vals] at h
  | e :: l, [], k, x, i, h => by simp [vals] at h
  | e :: l, p :: es, k, x, i, h => by
    simp only [vals, List.map_cons, List.cons.injEq, Prod.mk.injEq] at h
    obtain ⟨⟨hk, hv⟩, h⟩ := h
    obtain ⟨r, hr, hi⟩ := MapKept.sameNow_of_keys (d := .int .i64) (a := .int .i64 k) (b := e.key) rfl (by rw [hk]; rfl)
    unfold get up Instr.findNow
    rw [hr]
    cases r with
    | true =>
      have hkp : k = p.1 := by have := hi.1 rfl; rw [hk] at this; injection this
      rw [if_pos hkp.symm, if_pos hkp.symm, hv]
      exact .inr ⟨p.2, 0, rfl, rfl, rfl, e, rfl, by rw [hk, hkp]⟩
    | false =>
      have hne : ¬ p.1 = k := fun e' => by
        have := hi.2 (by rw [hk, e'])
        cases this
      rw [if_neg hne, if_neg hne]
      rcases find_get l es k x (i + 1) h with ⟨h1, h2, h3⟩ | ⟨v, j, h1, h2, h3, h4⟩
      · exact .inl ⟨h1, by rw [h2]; rfl, h3⟩
      · exact .inr ⟨v, j + 1, h1, by rw [show i + (j + 1) = i + 1 + j by omega]; exact h2, by rw [h3]; rfl, h4⟩
theorem zero3 (w : World) : (zeroValue 3).run Try.prog w = .ok (.int .i64 0) w := by kernel_rfl
theorem ck3 (k : Int) (b : Bool) (w : World) : (Instr.checkKey b 10000 3 (.int .i64 k)).run Try.prog w = .ok () w := MapKept.run_checkKey (k := .int .i64 k) Try.underlying3 rfl _ 9999
theorem look {w : World} {m : Nat} {es : Mm} (h : Mp w m es) (k : Int) : (Instr.lookup 42 (.map (some m)) (.int .i64 k) false).run Try.prog w = .ok (.int .i64 ((get es k).getD 0)) w := by
  obtain ⟨ents, clock, hb, he⟩ := h
  rcases find_get ents.toList es k 0 0 he with ⟨h1, _, h3⟩ | ⟨v, j, h1, h3, _⟩
  · simp [Instr.lookup, run_underlying Try.underlying42, MapKept.run_getObj_map hb, ck3, MapKept.run_findKey Try.underlying3 h3, zero3, Result.andThen, h1]
  · simp [Instr.lookup, run_underlying Try.underlying42, MapKept.run_getObj_map hb, ck3, MapKept.run_findKey Try.underlying3 h3, Result.andThen, h1]
theorem lookok {w : World} {m : Nat} {es : Mm} (h : Mp w m es) (k : Int) : (Instr.lookup 42 (.map (some m)) (.int .i64 k) true).run Try.prog w = .ok (.tuple #[.int .i64 ((get es k).getD 0), .bool (get es k).isSome]) w := by
  obtain ⟨ents, clock, hb, he⟩ := h
  rcases find_get ents.toList es k 0 0 he with ⟨h1, _, h3⟩ | ⟨v, j, h1, h3, _⟩
  · simp [Instr.lookup, run_underlying Try.underlying42, MapKept.run_getObj_map hb, ck3, MapKept.run_findKey Try.underlying3 h3, zero3, Result.andThen, h1]
  · simp [Instr.lookup, run_underlying Try.underlying42, MapKept.run_getObj_map hb, ck3, MapKept.run_findKey Try.underlying3 h3, Result.andThen, h1]
/-- What a store leaves. -/
def putO (k x : Int) (ents : Array MapEntry) (clock : Nat) : Obj :=
  match Instr.findNow (.int .i64) (.int .i64 k) ents.toList 0 with
  | some (some (i, _)) => .map (ents.modify i fun e => { e with key := .int .i64 k, val := .int .i64 x }) clock
  | _ => .map (ents.push { key := .int .i64 k, val := .int .i64 x, born := clock }) (clock + 1)
def putM (w : World) (m : Nat) (k x : Int) : World :=
  match w.heap[m]? with
  | some (.map ents clock) => { w with heap := w.heap.setIfInBounds m (putO k x ents clock) }
  | _ => w
theorem put {w : World} {m : Nat} {es : Mm} (h : Mp w m es) (k x : Int) : (Instr.mapUpdate 42 (.map (some m)) (.int .i64 k) (.int .i64 x)).run Try.prog w = .ok () (putM w m k x) := by
  obtain ⟨ents, clock, hb, he⟩ := h
  rcases find_get ents.toList es k x 0 he with ⟨h1, _, h3⟩ | ⟨v, j, h1, h3, _, e, h4, h5⟩
  · simp [Instr.mapUpdate, run_underlying Try.underlying42, MapKept.run_getObj_map hb, ck3, MapKept.run_findKey Try.underlying3 h3, MapKept.run_setObj_map _ hb, Result.andThen, putM, hb, putO, h3]
  · rw [Nat.zero_add] at h3
    have hj : ents[j]? = some e := by simpa using h4
    have hst : ∀ w, (Instr.keyThatStays (.int .i64 k) (.int .i64 k)).run Try.prog w = .ok (.int .i64 k) w := fun w => MapKept.run_keyThatStays (d := .int .i64) (k := .int .i64 k) rfl
    simp [Instr.mapUpdate, run_underlying Try.underlying42, MapKept.run_getObj_map hb, ck3, MapKept.run_findKey Try.underlying3 h3, hj, h5, hst, MapKept.run_setObj_map _ hb, Result.andThen, putM, hb, putO, h3]
theorem putO_eq {ents : Array MapEntry} {es : Mm} (he : ents.toList.map (fun x => (x.key, x.val)) = vals es) (k x : Int) (clock : Nat) : ∃ ents' c', putO k x ents clock = .map ents' c' ∧ ents'.toList.map (fun x => (x.key, x.val)) = vals (up es k x) := by
  unfold putO
  rcases find_get ents.toList es k x 0 he with ⟨h1, h2, h3⟩ | ⟨v, j, h1, h3, h2, e, h4, h5⟩
  · rw [h3]
    exact ⟨_, _, rfl, by rw [h2]; simp [vals, he]⟩
  · rw [Nat.zero_add] at h3
    rw [h3]
    refine ⟨_, _, rfl, ?_⟩
    rw [h2]
    have hj : ents[j]? = some e := by simpa using h4
    rw [vals, List.map_set, show es.map (fun p => (Value.int .i64 p.1, Value.int .i64 p.2)) = vals es from rfl, ← he]
    apply List.ext_getElem?
    intro i
    rw [List.getElem?_map, List.getElem?_set, Array.getElem?_toList, Array.getElem?_modify, List.getElem?_map, Array.getElem?_toList]
    by_cases hi : j = i
    · subst hi
      have hlt : j < ents.toList.length := by have := (Array.getElem?_eq_some_iff.1 hj).1; simpa using this
      rw [if_pos rfl, if_pos rfl, if_pos (by simpa using hlt), hj]; rfl
    · rw [if_neg hi, if_neg hi]
theorem put_mp {w : World} {m : Nat} {es : Mm} (h : Mp w m es) (k x : Int) : Mp (putM w m k x) m (up es k x) := by
  obtain ⟨ents, clock, hb, he⟩ := h
  obtain ⟨ents', c', hO, hm⟩ := putO_eq he k x clock
  unfold putM
  rw [hb]
  exact ⟨ents', c', by rw [← hO]; exact (MapKept.heap_set hb).1, hm⟩
theorem put_block {w : World} {m : Nat} {es : Mm} (h : Mp w m es) (k x : Int) (b : Nat) (hk : b ≠ m) : (putM w m k x).heap[b]? = w.heap[b]? := by
  obtain ⟨ents, clock, hb, he⟩ := h
  unfold putM
  rw [hb]
  exact (MapKept.heap_set hb).2 b hk
theorem put_size {w : World} {m : Nat} {es : Mm} (h : Mp w m es) (k x : Int) : (putM w m k x).heap.size = w.heap.size := by
  obtain ⟨ents, clock, hb, he⟩ := h
  unfold putM
  rw [hb]
  simp
theorem put_below {w W : World} {m : Nat} {es : Mm} (h : Below w.heap.size w W) (hm : Mp W m es) (hg : w.heap.size ≤ m) (k x : Int) : Below w.heap.size w (putM W m k x) :=
  ⟨by rw [show (putM W m k x).os = W.os by obtain ⟨e, c, hb, _⟩ := hm; unfold putM; rw [hb]]; exact h.os, by rw [show (putM W m k x).tape = W.tape by obtain ⟨e, c, hb, _⟩ := hm; unfold putM; rw [hb]]; exact h.tape, by rw [show (putM W m k x).output = W.output by obtain ⟨e, c, hb, _⟩ := hm; unfold putM; rw [hb]]; exact h.output, by rw [put_size hm]; exact h.size, fun b hb => (put_block hm k x b (by omega)).trans (h.block b hb)⟩
theorem Mp.keep {w w' : World} {m : Nat} {es : Mm} (h : Mp w m es) (hb : w'.heap[m]? = w.heap[m]?) : Mp w' m es := by
  obtain ⟨ents, clock, h1, h2⟩ := h
  exact ⟨ents, clock, hb.trans h1, h2⟩
theorem Mp.lt {w : World} {m : Nat} {es : Mm} (h : Mp w m es) : m < w.heap.size := by
  obtain ⟨ents, clock, h1, h2⟩ := h
  exact (Array.getElem?_eq_some_iff.1 h1).1
theorem Mp.below {w w' : World} {m : Nat} {es : Mm} (h : Mp w m es) (b : Below w.heap.size w w') : Mp w' m es := h.keep (b.block _ h.lt)
theorem Mp.new (w : World) : Mp (w.alloc (.map #[] 0)) w.heap.size [] := ⟨_, _, blk_new w _, rfl⟩
theorem Mp.cells {w : World} {m g : Nat} {es : Mm} {cs : Array Value} {t : TypeId} {q : Nat × Nat} (h : Mp w m es) (hb : w.heap[g]? = some (.cells cs t q)) : g ≠ m := by
  rintro rfl
  obtain ⟨ents, clock, h1, h2⟩ := h
  rw [h1] at hb; cases hb
end Go.Proofs.Ytdhmnjoceeolcaa.Asm
end
section
namespace Go.Proofs.Ytdhmnjoceeolcaa.FactsDec
open Go.RowKit Go.Proofs.Ytdhmnjoceeolcaa.GF Go.Proofs.YtdhmnjoceeolcaaW.PrintWords Go.Proofs.YtdhmnjoceeolcaaW.PrintLast Go.Proofs.YtdhmnjoceeolcaaW.PrintMore
set_option linter.unusedVariables false
set_option linter.unusedSimpArgs false
theorem b263_1 : Go.bits .and .i64 263 1 = 1 := by decide +kernel
theorem b263_2 : Go.bits .and .i64 263 2 = 2 := by decide +kernel
theorem b263_4 : Go.bits .and .i64 263 4 = 4 := by decide +kernel
theorem b263_8 : Go.bits .and .i64 263 8 = 0 := by decide +kernel
theorem b263_16 : Go.bits .and .i64 263 16 = 0 := by decide +kernel
theorem b263_32 : Go.bits .and .i64 263 32 = 0 := by decide +kernel
theorem b263_64 : Go.bits .and .i64 263 64 = 0 := by decide +kernel
theorem b263_80 : Go.bits .and .i64 263 80 = 0 := by decide +kernel
theorem b263_128 : Go.bits .and .i64 263 128 = 0 := by decide +kernel
theorem b263_256 : Go.bits .and .i64 263 256 = 256 := by decide +kernel
theorem b267_1 : Go.bits .and .i64 267 1 = 1 := by decide +kernel
theorem b267_2 : Go.bits .and .i64 267 2 = 2 := by decide +kernel
theorem b267_4 : Go.bits .and .i64 267 4 = 0 := by decide +kernel
theorem b267_8 : Go.bits .and .i64 267 8 = 8 := by decide +kernel
theorem b267_16 : Go.bits .and .i64 267 16 = 0 := by decide +kernel
theorem b267_32 : Go.bits .and .i64 267 32 = 0 := by decide +kernel
theorem b267_64 : Go.bits .and .i64 267 64 = 0 := by decide +kernel
theorem b267_80 : Go.bits .and .i64 267 80 = 0 := by decide +kernel
theorem b267_128 : Go.bits .and .i64 267 128 = 0 := by decide +kernel
theorem b267_256 : Go.bits .and .i64 267 256 = 256 := by decide +kernel
theorem b139_1 : Go.bits .and .i64 139 1 = 1 := by decide +kernel
theorem b139_2 : Go.bits .and .i64 139 2 = 2 := by decide +kernel
theorem b139_4 : Go.bits .and .i64 139 4 = 0 := by decide +kernel
theorem b139_8 : Go.bits .and .i64 139 8 = 8 := by decide +kernel
theorem b139_16 : Go.bits .and .i64 139 16 = 0 := by decide +kernel
theorem b139_32 : Go.bits .and .i64 139 32 = 0 := by decide +kernel
theorem b139_64 : Go.bits .and .i64 139 64 = 0 := by decide +kernel
theorem b139_80 : Go.bits .and .i64 139 80 = 0 := by decide +kernel
theorem b139_128 : Go.bits .and .i64 139 128 = 128 := by decide +kernel
theorem b139_256 : Go.bits .and .i64 139 256 = 0 := by decide +kernel
theorem b265_1 : Go.bits .and .i64 265 1 = 1 := by decide +kernel
theorem b265_2 : Go.bits .and .i64 265 2 = 0 := by decide +kernel
theorem b265_4 : Go.bits .and .i64 265 4 = 0 := by decide +kernel
theorem b265_8 : Go.bits .and .i64 265 8 = 8 := by decide +kernel
theorem b265_16 : Go.bits .and .i64 265 16 = 0 := by decide +kernel
theorem b265_32 : Go.bits .and .i64 265 32 = 0 := by decide +kernel
theorem b265_64 : Go.bits .and .i64 265 64 = 0 := by decide +kernel
theorem b265_80 : Go.bits .and .i64 265 80 = 0 := by decide +kernel
theorem b265_128 : Go.bits .and .i64 265 128 = 0 := by decide +kernel
theorem b265_256 : Go.bits .and .i64 265 256 = 256 := by decide +kernel
theorem b401_1 : Go.bits .and .i64 401 1 = 1 := by decide +kernel
theorem b401_2 : Go.bits .and .i64 401 2 = 0 := by decide +kernel
theorem b401_4 : Go.bits .and .i64 401 4 = 0 := by decide +kernel
theorem b401_8 : Go.bits .and .i64 401 8 = 0 := by decide +kernel
theorem b401_16 : Go.bits .and .i64 401 16 = 16 := by decide +kernel
theorem b401_32 : Go.bits .and .i64 401 32 = 0 := by decide +kernel
theorem b401_64 : Go.bits .and .i64 401 64 = 0 := by decide +kernel
theorem b401_80 : Go.bits .and .i64 401 80 = 16 := by decide +kernel
theorem b401_128 : Go.bits .and .i64 401 128 = 128 := by decide +kernel
theorem b401_256 : Go.bits .and .i64 401 256 = 256 := by decide +kernel
theorem b10_1 : Go.bits .and .i64 10 1 = 0 := by decide +kernel
theorem b10_2 : Go.bits .and .i64 10 2 = 2 := by decide +kernel
theorem b10_4 : Go.bits .and .i64 10 4 = 0 := by decide +kernel
theorem b10_8 : Go.bits .and .i64 10 8 = 8 := by decide +kernel
theorem b10_16 : Go.bits .and .i64 10 16 = 0 := by decide +kernel
theorem b10_32 : Go.bits .and .i64 10 32 = 0 := by decide +kernel
theorem b10_64 : Go.bits .and .i64 10 64 = 0 := by decide +kernel
theorem b10_80 : Go.bits .and .i64 10 80 = 0 := by decide +kernel
theorem b10_128 : Go.bits .and .i64 10 128 = 0 := by decide +kernel
theorem b10_256 : Go.bits .and .i64 10 256 = 0 := by decide +kernel
theorem b32_1 : Go.bits .and .i64 32 1 = 0 := by decide +kernel
theorem b32_2 : Go.bits .and .i64 32 2 = 0 := by decide +kernel
theorem b32_4 : Go.bits .and .i64 32 4 = 0 := by decide +kernel
theorem b32_8 : Go.bits .and .i64 32 8 = 0 := by decide +kernel
theorem b32_16 : Go.bits .and .i64 32 16 = 0 := by decide +kernel
theorem b32_32 : Go.bits .and .i64 32 32 = 32 := by decide +kernel
theorem b32_64 : Go.bits .and .i64 32 64 = 0 := by decide +kernel
theorem b32_80 : Go.bits .and .i64 32 80 = 0 := by decide +kernel
theorem b32_128 : Go.bits .and .i64 32 128 = 0 := by decide +kernel
theorem b32_256 : Go.bits .and .i64 32 256 = 0 := by decide +kernel
theorem b2_1 : Go.bits .and .i64 2 1 = 0 := by decide +kernel
theorem b2_2 : Go.bits .and .i64 2 2 = 2 := by decide +kernel
theorem b2_4 : Go.bits .and .i64 2 4 = 0 := by decide +kernel
theorem b2_8 : Go.bits .and .i64 2 8 = 0 := by decide +kernel
theorem b2_16 : Go.bits .and .i64 2 16 = 0 := by decide +kernel
theorem b2_32 : Go.bits .and .i64 2 32 = 0 := by decide +kernel
theorem b2_64 : Go.bits .and .i64 2 64 = 0 := by decide +kernel
theorem b2_80 : Go.bits .and .i64 2 80 = 0 := by decide +kernel
theorem b2_128 : Go.bits .and .i64 2 128 = 0 := by decide +kernel
theorem b2_256 : Go.bits .and .i64 2 256 = 0 := by decide +kernel
theorem b257_1 : Go.bits .and .i64 257 1 = 1 := by decide +kernel
theorem b257_2 : Go.bits .and .i64 257 2 = 0 := by decide +kernel
theorem b257_4 : Go.bits .and .i64 257 4 = 0 := by decide +kernel
theorem b257_8 : Go.bits .and .i64 257 8 = 0 := by decide +kernel
theorem b257_16 : Go.bits .and .i64 257 16 = 0 := by decide +kernel
theorem b257_32 : Go.bits .and .i64 257 32 = 0 := by decide +kernel
theorem b257_64 : Go.bits .and .i64 257 64 = 0 := by decide +kernel
theorem b257_80 : Go.bits .and .i64 257 80 = 0 := by decide +kernel
theorem b257_128 : Go.bits .and .i64 257 128 = 0 := by decide +kernel
theorem b257_256 : Go.bits .and .i64 257 256 = 256 := by decide +kernel
theorem b64_1 : Go.bits .and .i64 64 1 = 0 := by decide +kernel
theorem b64_2 : Go.bits .and .i64 64 2 = 0 := by decide +kernel
theorem b64_4 : Go.bits .and .i64 64 4 = 0 := by decide +kernel
theorem b64_8 : Go.bits .and .i64 64 8 = 0 := by decide +kernel
theorem b64_16 : Go.bits .and .i64 64 16 = 0 := by decide +kernel
theorem b64_32 : Go.bits .and .i64 64 32 = 0 := by decide +kernel
theorem b64_64 : Go.bits .and .i64 64 64 = 64 := by decide +kernel
theorem b64_80 : Go.bits .and .i64 64 80 = 64 := by decide +kernel
theorem b64_128 : Go.bits .and .i64 64 128 = 0 := by decide +kernel
theorem b64_256 : Go.bits .and .i64 64 256 = 0 := by decide +kernel
theorem b0_1 : Go.bits .and .i64 0 1 = 0 := by decide +kernel
theorem b0_2 : Go.bits .and .i64 0 2 = 0 := by decide +kernel
theorem b0_4 : Go.bits .and .i64 0 4 = 0 := by decide +kernel
theorem b0_8 : Go.bits .and .i64 0 8 = 0 := by decide +kernel
theorem b0_16 : Go.bits .and .i64 0 16 = 0 := by decide +kernel
theorem b0_32 : Go.bits .and .i64 0 32 = 0 := by decide +kernel
theorem b0_64 : Go.bits .and .i64 0 64 = 0 := by decide +kernel
theorem b0_80 : Go.bits .and .i64 0 80 = 0 := by decide +kernel
theorem b0_128 : Go.bits .and .i64 0 128 = 0 := by decide +kernel
theorem b0_256 : Go.bits .and .i64 0 256 = 0 := by decide +kernel
/-- May a register be? -/
def rg (r : Int) (h : Bool) : Bool := decide (0 ≤ r) && decide (r < 16) && (h || r == 0)
theorem reg1 (r : Int) (h : Bool) : isa_register.f r h = some (rg r h) := by
  unfold isa_register.f rg
  by_cases h1 : 0 ≤ r <;> by_cases h2 : r < 16 <;> cases h <;> simp [h1, h2]
/-- The kinds of operations: which parts, which registers, how many bits, with sign or without, is it one; the least and the greatest operand. -/
def Cl (op p : Int) (sd sa sb : Bool) (bits : Int) (sign is : Bool) (lo hi : Int) : Prop :=
  ((1 ≤ op ∧ op ≤ 19) ∧ p = 263 ∧ sd = true ∧ sa = true ∧ sb = true ∧ bits = 0 ∧ sign = false ∧ is = true ∧ lo = 0 ∧ hi = 0) ∨
  ((op = 32 ∨ op = 35 ∨ op = 36) ∧ p = 267 ∧ sd = true ∧ sa = true ∧ sb = false ∧ bits = 16 ∧ sign = true ∧ is = true ∧ lo = -32768 ∧ hi = 32767) ∨
  ((op = 37 ∨ op = 38) ∧ p = 139 ∧ sd = true ∧ sa = true ∧ sb = false ∧ bits = 16 ∧ sign = true ∧ is = true ∧ lo = -32768 ∧ hi = 32767) ∨
  (op = 33 ∧ p = 265 ∧ sd = true ∧ sa = false ∧ sb = false ∧ bits = 16 ∧ sign = true ∧ is = true ∧ lo = -32768 ∧ hi = 32767) ∨
  (op = 34 ∧ p = 401 ∧ sd = true ∧ sa = false ∧ sb = false ∧ bits = 16 ∧ sign = false ∧ is = true ∧ lo = 0 ∧ hi = 65535) ∨
  ((op = 39 ∨ op = 40) ∧ p = 10 ∧ sd = false ∧ sa = true ∧ sb = false ∧ bits = 16 ∧ sign = true ∧ is = true ∧ lo = -32768 ∧ hi = 32767) ∨
  ((op = 41 ∨ op = 42) ∧ p = 32 ∧ sd = false ∧ sa = false ∧ sb = false ∧ bits = 24 ∧ sign = true ∧ is = true ∧ lo = -8388608 ∧ hi = 8388607) ∨
  ((op = 43 ∨ op = 45 ∨ op = 47) ∧ p = 2 ∧ sd = false ∧ sa = true ∧ sb = false ∧ bits = 0 ∧ sign = false ∧ is = true ∧ lo = 0 ∧ hi = 0) ∨
  (op = 44 ∧ p = 257 ∧ sd = true ∧ sa = false ∧ sb = false ∧ bits = 0 ∧ sign = false ∧ is = true ∧ lo = 0 ∧ hi = 0) ∨
  (op = 46 ∧ p = 64 ∧ sd = false ∧ sa = false ∧ sb = false ∧ bits = 16 ∧ sign = false ∧ is = true ∧ lo = 1 ∧ hi = 5) ∨
  ((¬ (1 ≤ op ∧ op ≤ 19) ∧ ¬ (32 ≤ op ∧ op ≤ 47)) ∧ p = 0 ∧ sd = false ∧ sa = false ∧ sb = false ∧ bits = 0 ∧ sign = false ∧ is = false ∧ lo = 0 ∧ hi = 0)
theorem cl (op : Int) : ∃ p sd sa sb bits sign is lo hi, Cl op p sd sa sb bits sign is lo hi := by
  by_cases h1 : 1 ≤ op ∧ op ≤ 19
  · exact ⟨_, _, _, _, _, _, _, _, _, .inl ⟨h1, rfl, rfl, rfl, rfl, rfl, rfl, rfl, rfl, rfl⟩⟩
  by_cases h2 : 32 ≤ op ∧ op ≤ 47
  · have : op = 32 ∨ op = 33 ∨ op = 34 ∨ op = 35 ∨ op = 36 ∨ op = 37 ∨ op = 38 ∨ op = 39 ∨ op = 40 ∨ op = 41 ∨ op = 42 ∨ op = 43 ∨ op = 44 ∨ op = 45 ∨ op = 46 ∨ op = 47 := by omega
    rcases this with rfl | rfl | rfl | rfl | rfl | rfl | rfl | rfl | rfl | rfl | rfl | rfl | rfl | rfl | rfl | rfl
    · exact ⟨_, _, _, _, _, _, _, _, _, .inr (.inl ⟨(.inl rfl), rfl, rfl, rfl, rfl, rfl, rfl, rfl, rfl, rfl⟩)⟩
    · exact ⟨_, _, _, _, _, _, _, _, _, .inr (.inr (.inr (.inl ⟨rfl, rfl, rfl, rfl, rfl, rfl, rfl, rfl, rfl, rfl⟩)))⟩
    · exact ⟨_, _, _, _, _, _, _, _, _, .inr (.inr (.inr (.inr (.inl ⟨rfl, rfl, rfl, rfl, rfl, rfl, rfl, rfl, rfl, rfl⟩))))⟩
    · exact ⟨_, _, _, _, _, _, _, _, _, .inr (.inl ⟨(.inr (.inl rfl)), rfl, rfl, rfl, rfl, rfl, rfl, rfl, rfl, rfl⟩)⟩
    · exact ⟨_, _, _, _, _, _, _, _, _, .inr (.inl ⟨(.inr (.inr rfl)), rfl, rfl, rfl, rfl, rfl, rfl, rfl, rfl, rfl⟩)⟩
    · exact ⟨_, _, _, _, _, _, _, _, _, .inr (.inr (.inl ⟨(.inl rfl), rfl, rfl, rfl, rfl, rfl, rfl, rfl, rfl, rfl⟩))⟩
    · exact ⟨_, _, _, _, _, _, _, _, _, .inr (.inr (.inl ⟨(.inr rfl), rfl, rfl, rfl, rfl, rfl, rfl, rfl, rfl, rfl⟩))⟩
    · exact ⟨_, _, _, _, _, _, _, _, _, .inr (.inr (.inr (.inr (.inr (.inl ⟨(.inl rfl), rfl, rfl, rfl, rfl, rfl, rfl, rfl, rfl, rfl⟩)))))⟩
    · exact ⟨_, _, _, _, _, _, _, _, _, .inr (.inr (.inr (.inr (.inr (.inl ⟨(.inr rfl), rfl, rfl, rfl, rfl, rfl, rfl, rfl, rfl, rfl⟩)))))⟩
    · exact ⟨_, _, _, _, _, _, _, _, _, .inr (.inr (.inr (.inr (.inr (.inr (.inl ⟨(.inl rfl), rfl, rfl, rfl, rfl, rfl, rfl, rfl, rfl, rfl⟩))))))⟩
    · exact ⟨_, _, _, _, _, _, _, _, _, .inr (.inr (.inr (.inr (.inr (.inr (.inl ⟨(.inr rfl), rfl, rfl, rfl, rfl, rfl, rfl, rfl, rfl, rfl⟩))))))⟩
    · exact ⟨_, _, _, _, _, _, _, _, _, .inr (.inr (.inr (.inr (.inr (.inr (.inr (.inl ⟨(.inl rfl), rfl, rfl, rfl, rfl, rfl, rfl, rfl, rfl, rfl⟩)))))))⟩
    · exact ⟨_, _, _, _, _, _, _, _, _, .inr (.inr (.inr (.inr (.inr (.inr (.inr (.inr (.inl ⟨rfl, rfl, rfl, rfl, rfl, rfl, rfl, rfl, rfl, rfl⟩))))))))⟩
    · exact ⟨_, _, _, _, _, _, _, _, _, .inr (.inr (.inr (.inr (.inr (.inr (.inr (.inl ⟨(.inr (.inl rfl)), rfl, rfl, rfl, rfl, rfl, rfl, rfl, rfl, rfl⟩)))))))⟩
    · exact ⟨_, _, _, _, _, _, _, _, _, .inr (.inr (.inr (.inr (.inr (.inr (.inr (.inr (.inr (.inl ⟨rfl, rfl, rfl, rfl, rfl, rfl, rfl, rfl, rfl, rfl⟩)))))))))⟩
    · exact ⟨_, _, _, _, _, _, _, _, _, .inr (.inr (.inr (.inr (.inr (.inr (.inr (.inl ⟨(.inr (.inr rfl)), rfl, rfl, rfl, rfl, rfl, rfl, rfl, rfl, rfl⟩)))))))⟩
  · exact ⟨_, _, _, _, _, _, _, _, _, .inr (.inr (.inr (.inr (.inr (.inr (.inr (.inr (.inr (.inr ⟨⟨h1, h2⟩, rfl, rfl, rfl, rfl, rfl, rfl, rfl, rfl, rfl⟩)))))))))⟩
section
variable {op p bits lo hi : Int} {sd sa sb sign is : Bool}
theorem parts (k : Nat) (h : Cl op p sd sa sb bits sign is lo hi) : isa_parts.f (k + 7) op = some p := by
  rcases h with ⟨h, rfl, rfl, rfl, rfl, rfl, rfl, rfl, rfl, rfl⟩ | ⟨rfl | rfl | rfl, rfl, rfl, rfl, rfl, rfl, rfl, rfl, rfl, rfl⟩ | ⟨rfl | rfl, rfl, rfl, rfl, rfl, rfl, rfl, rfl, rfl, rfl⟩ | ⟨rfl, rfl, rfl, rfl, rfl, rfl, rfl, rfl, rfl, rfl⟩ | ⟨rfl, rfl, rfl, rfl, rfl, rfl, rfl, rfl, rfl, rfl⟩ | ⟨rfl | rfl, rfl, rfl, rfl, rfl, rfl, rfl, rfl, rfl, rfl⟩ | ⟨rfl | rfl, rfl, rfl, rfl, rfl, rfl, rfl, rfl, rfl, rfl⟩ | ⟨rfl | rfl | rfl, rfl, rfl, rfl, rfl, rfl, rfl, rfl, rfl, rfl⟩ | ⟨rfl, rfl, rfl, rfl, rfl, rfl, rfl, rfl, rfl, rfl⟩ | ⟨rfl, rfl, rfl, rfl, rfl, rfl, rfl, rfl, rfl, rfl⟩ | ⟨⟨h1, h2⟩, rfl, rfl, rfl, rfl, rfl, rfl, rfl, rfl, rfl⟩
  · simp [isa_parts.f, isa_parts.j0, h.1, h.2]
  all_goals first | (simp [isa_parts.f, isa_parts.j0, isa_parts.j1, isa_parts.j2, isa_parts.j3, isa_parts.j4, isa_parts.j5]; done) | skip
  · have n32 : op ≠ 32 := by omega
    have n33 : op ≠ 33 := by omega
    have n34 : op ≠ 34 := by omega
    have n35 : op ≠ 35 := by omega
    have n36 : op ≠ 36 := by omega
    have n37 : op ≠ 37 := by omega
    have n38 : op ≠ 38 := by omega
    have n39 : op ≠ 39 := by omega
    have n40 : op ≠ 40 := by omega
    have n41 : op ≠ 41 := by omega
    have n42 : op ≠ 42 := by omega
    have n43 : op ≠ 43 := by omega
    have n44 : op ≠ 44 := by omega
    have n45 : op ≠ 45 := by omega
    have n46 : op ≠ 46 := by omega
    have n47 : op ≠ 47 := by omega
    by_cases e : 1 ≤ op
    · have e2 : ¬ op ≤ 19 := fun x => h1 ⟨e, x⟩
      simp [isa_parts.f, isa_parts.j0, isa_parts.j1, isa_parts.j2, isa_parts.j3, isa_parts.j4, isa_parts.j5, e, e2, n32, n33, n34, n35, n36, n37, n38, n39, n40, n41, n42, n43, n44, n45, n46, n47]
    · simp [isa_parts.f, isa_parts.j0, isa_parts.j1, isa_parts.j2, isa_parts.j3, isa_parts.j4, isa_parts.j5, e, n32, n33, n34, n35, n36, n37, n38, n39, n40, n41, n42, n43, n44, n45, n46, n47]
theorem shaped (k : Nat) (h : Cl op p sd sa sb bits sign is lo hi) : crucibleref02_shaped.f (k + 7) op = some (sd, sa, sb, bits, sign, is) := by
  rcases h with ⟨h, rfl, rfl, rfl, rfl, rfl, rfl, rfl, rfl, rfl⟩ | ⟨rfl | rfl | rfl, rfl, rfl, rfl, rfl, rfl, rfl, rfl, rfl, rfl⟩ | ⟨rfl | rfl, rfl, rfl, rfl, rfl, rfl, rfl, rfl, rfl, rfl⟩ | ⟨rfl, rfl, rfl, rfl, rfl, rfl, rfl, rfl, rfl, rfl⟩ | ⟨rfl, rfl, rfl, rfl, rfl, rfl, rfl, rfl, rfl, rfl⟩ | ⟨rfl | rfl, rfl, rfl, rfl, rfl, rfl, rfl, rfl, rfl, rfl⟩ | ⟨rfl | rfl, rfl, rfl, rfl, rfl, rfl, rfl, rfl, rfl, rfl⟩ | ⟨rfl | rfl | rfl, rfl, rfl, rfl, rfl, rfl, rfl, rfl, rfl, rfl⟩ | ⟨rfl, rfl, rfl, rfl, rfl, rfl, rfl, rfl, rfl, rfl⟩ | ⟨rfl, rfl, rfl, rfl, rfl, rfl, rfl, rfl, rfl, rfl⟩ | ⟨⟨h1, h2⟩, rfl, rfl, rfl, rfl, rfl, rfl, rfl, rfl, rfl⟩
  · simp [crucibleref02_shaped.f, crucibleref02_shaped.j0, h.1, h.2]
  all_goals first | (simp [crucibleref02_shaped.f, crucibleref02_shaped.j0, crucibleref02_shaped.j1, crucibleref02_shaped.j2, crucibleref02_shaped.j3, crucibleref02_shaped.j4]; done) | skip
  · have n32 : op ≠ 32 := by omega
    have n33 : op ≠ 33 := by omega
    have n34 : op ≠ 34 := by omega
    have n35 : op ≠ 35 := by omega
    have n36 : op ≠ 36 := by omega
    have n37 : op ≠ 37 := by omega
    have n38 : op ≠ 38 := by omega
    have n39 : op ≠ 39 := by omega
    have n40 : op ≠ 40 := by omega
    have n41 : op ≠ 41 := by omega
    have n42 : op ≠ 42 := by omega
    have n43 : op ≠ 43 := by omega
    have n44 : op ≠ 44 := by omega
    have n45 : op ≠ 45 := by omega
    have n46 : op ≠ 46 := by omega
    have n47 : op ≠ 47 := by omega
    by_cases e : 1 ≤ op
    · have e2 : ¬ op ≤ 19 := fun x => h1 ⟨e, x⟩
      simp [crucibleref02_shaped.f, crucibleref02_shaped.j0, crucibleref02_shaped.j1, crucibleref02_shaped.j2, crucibleref02_shaped.j3, crucibleref02_shaped.j4, e, e2, n32, n33, n34, n35, n36, n37, n38, n39, n40, n41, n42, n43, n44, n45, n46, n47]
    · simp [crucibleref02_shaped.f, crucibleref02_shaped.j0, crucibleref02_shaped.j1, crucibleref02_shaped.j2, crucibleref02_shaped.j3, crucibleref02_shaped.j4, e, n32, n33, n34, n35, n36, n37, n38, n39, n40, n41, n42, n43, n44, n45, n46, n47]
/-- May an instruction be? -/
def ok (d a b i : Int) (sd sa sb is : Bool) (lo hi : Int) : Bool := is && (rg d sd && (rg a sa && (rg b sb && (decide (lo ≤ i) && decide (i ≤ hi)))))
theorem check (k : Nat) (d a b i : Int) (h : Cl op p sd sa sb bits sign is lo hi) : isa_Check.f (k + 7) op d a b i = some (if ok d a b i sd sa sb is lo hi = true then 0 else 1) := by
  have hp := parts k h
  unfold isa_Check.f ok
  rw [hp]
  simp only [Option.bind_some, reg1]
  rcases h with ⟨h, rfl, rfl, rfl, rfl, rfl, rfl, rfl, rfl, rfl⟩ | ⟨rfl | rfl | rfl, rfl, rfl, rfl, rfl, rfl, rfl, rfl, rfl, rfl⟩ | ⟨rfl | rfl, rfl, rfl, rfl, rfl, rfl, rfl, rfl, rfl, rfl⟩ | ⟨rfl, rfl, rfl, rfl, rfl, rfl, rfl, rfl, rfl, rfl⟩ | ⟨rfl, rfl, rfl, rfl, rfl, rfl, rfl, rfl, rfl, rfl⟩ | ⟨rfl | rfl, rfl, rfl, rfl, rfl, rfl, rfl, rfl, rfl, rfl⟩ | ⟨rfl | rfl, rfl, rfl, rfl, rfl, rfl, rfl, rfl, rfl, rfl⟩ | ⟨rfl | rfl | rfl, rfl, rfl, rfl, rfl, rfl, rfl, rfl, rfl, rfl⟩ | ⟨rfl, rfl, rfl, rfl, rfl, rfl, rfl, rfl, rfl, rfl⟩ | ⟨rfl, rfl, rfl, rfl, rfl, rfl, rfl, rfl, rfl, rfl⟩ | ⟨⟨h1, h2⟩, rfl, rfl, rfl, rfl, rfl, rfl, rfl, rfl, rfl⟩
  all_goals simp only [isa_within.f, b263_1, b263_2, b263_4, b263_8, b263_16, b263_32, b263_64, b263_80, b263_128, b263_256, b267_1, b267_2, b267_4, b267_8, b267_16, b267_32, b267_64, b267_80, b267_128, b267_256, b139_1, b139_2, b139_4, b139_8, b139_16, b139_32, b139_64, b139_80, b139_128, b139_256, b265_1, b265_2, b265_4, b265_8, b265_16, b265_32, b265_64, b265_80, b265_128, b265_256, b401_1, b401_2, b401_4, b401_8, b401_16, b401_32, b401_64, b401_80, b401_128, b401_256, b10_1, b10_2, b10_4, b10_8, b10_16, b10_32, b10_64, b10_80, b10_128, b10_256, b32_1, b32_2, b32_4, b32_8, b32_16, b32_32, b32_64, b32_80, b32_128, b32_256, b2_1, b2_2, b2_4, b2_8, b2_16, b2_32, b2_64, b2_80, b2_128, b2_256, b257_1, b257_2, b257_4, b257_8, b257_16, b257_32, b257_64, b257_80, b257_128, b257_256, b64_1, b64_2, b64_4, b64_8, b64_16, b64_32, b64_64, b64_80, b64_128, b64_256, b0_1, b0_2, b0_4, b0_8, b0_16, b0_32, b0_64, b0_80, b0_128, b0_256]
  all_goals simp
  all_goals (try (generalize rg d _ = r1; generalize rg a _ = r2; generalize rg b _ = r3; cases r1 <;> cases r2 <;> cases r3 <;> simp))
  all_goals (repeat' split) <;> simp_all <;> omega
/-- An instruction's word. -/
def E (op d a b i bits : Int) : Int := op * 16777216 + d * 1048576 + a * 65536 + b * 4096 + i % (if bits = 24 then 16777216 else 65536)
/-- A register's number in a word. -/
def fld (w : Int) (h : Bool) (s : Int) : Int := if h = true then w / s % 16 else 0
/-- The operand in a word. -/
def im (w bits : Int) (sign : Bool) : Int := if bits = 0 then 0 else if bits = 24 then (if w % 16777216 < 8388608 then w % 16777216 else w % 16777216 - 16777216) else if sign = true then (if w % 65536 < 32768 then w % 65536 else w % 65536 - 65536) else w % 65536
end
theorem or_add (x y : Int) (m : Int) (n : Nat) (hmn : m = ((2 ^ n : Nat) : Int)) (hm : m ≤ 4294967296) (hx0 : 0 ≤ x) (hx : x < 4294967296) (hy0 : 0 ≤ y) (hy : y < m) (hz : x % m = 0) : Go.bits .or .u32 x y = x + y := by
  rw [u32_or x y hx0 hx hy0 (by omega)]
  have h1 : x.toNat % 2 ^ n = 0 := by
    have : ((x.toNat % 2 ^ n : Nat) : Int) = 0 := by rw [Int.natCast_emod, Int.toNat_of_nonneg hx0, ← hmn]; exact hz
    omega
  have h2 : y.toNat < 2 ^ n := by omega
  rw [nat_join n _ _ h1 h2]
  omega
theorem and_low (x : Int) (hx0 : 0 ≤ x) (hx : x < 4294967296) : Go.bits .and .u32 x 65535 = x % 65536 := by
  rw [u32_and x 65535 hx0 hx (by omega) (by omega)]
  have : (x.toNat &&& (65535 : Int).toNat : Nat) = x.toNat % 65536 := nat_mask16 x.toNat
  rw [this]; omega
theorem and_far (x : Int) (hx0 : 0 ≤ x) (hx : x < 4294967296) : Go.bits .and .u32 x 16777215 = x % 16777216 := by
  rw [u32_and x 16777215 hx0 hx (by omega) (by omega)]
  have : (x.toNat &&& (16777215 : Int).toNat : Nat) = x.toNat % 16777216 := nat_mask24 x.toNat
  rw [this]; omega
theorem and_15 (x : Int) (hx0 : 0 ≤ x) (hx : x < 4294967296) : Go.bits .and .u32 x 15 = x % 16 := by
  rw [u32_and x 15 hx0 hx (by omega) (by omega)]
  have : (x.toNat &&& (15 : Int).toNat : Nat) = x.toNat % 16 := nat_mask4 x.toNat
  rw [this]; omega
theorem b_16 : ((16 : Int) = 0) = False := by simp
theorem z0 : ((0 : Int) = 0) = True := by simp
theorem z1 : ((24 : Int) = 24) = True := by simp
theorem z2 : ((16 : Int) = 24) = False := by simp
theorem z3 : ((24 : Int) = 0) = False := by simp
theorem or4 (op d a b : Int) (h1 : 0 ≤ op) (h2 : op < 256) (d1 : 0 ≤ d) (d2 : d < 16) (a1 : 0 ≤ a) (a2 : a < 16) (b1 : 0 ≤ b) (b2 : b < 16) :
    Go.bits .or .u32 (Go.bits .or .u32 (Go.bits .or .u32 (((op % 4294967296) * 16777216) % 4294967296) (((d % 4294967296) * 1048576) % 4294967296)) (((a % 4294967296) * 65536) % 4294967296)) (((b % 4294967296) * 4096) % 4294967296) = op * 16777216 + d * 1048576 + a * 65536 + b * 4096 := by
  rw [show ((op % 4294967296) * 16777216) % 4294967296 = op * 16777216 by omega, show ((d % 4294967296) * 1048576) % 4294967296 = d * 1048576 by omega, show ((a % 4294967296) * 65536) % 4294967296 = a * 65536 by omega, show ((b % 4294967296) * 4096) % 4294967296 = b * 4096 by omega]
  rw [or_add (op * 16777216) (d * 1048576) 16777216 24 (by decide) (by omega) (by omega) (by omega) (by omega) (by omega) (by omega)]
  rw [or_add (op * 16777216 + d * 1048576) (a * 65536) 1048576 20 (by decide) (by omega) (by omega) (by omega) (by omega) (by omega) (by omega)]
  rw [or_add (op * 16777216 + d * 1048576 + a * 65536) (b * 4096) 65536 16 (by decide) (by omega) (by omega) (by omega) (by omega) (by omega) (by omega)]
/-- What an instruction that may be has, in numbers. -/
theorem ok_out {d a b i lo hi : Int} {sd sa sb is : Bool} (h : ok d a b i sd sa sb is lo hi = true) : is = true ∧ (0 ≤ d ∧ d < 16 ∧ (sd = false → d = 0)) ∧ (0 ≤ a ∧ a < 16 ∧ (sa = false → a = 0)) ∧ (0 ≤ b ∧ b < 16 ∧ (sb = false → b = 0)) ∧ lo ≤ i ∧ i ≤ hi := by
  unfold ok rg at h
  simp only [Bool.and_eq_true, decide_eq_true_eq, Bool.or_eq_true, beq_iff_eq] at h
  obtain ⟨h1, ⟨⟨h2, h3⟩, h4⟩, ⟨⟨h5, h6⟩, h7⟩, ⟨⟨h8, h9⟩, h10⟩, h11, h12⟩ := h
  refine ⟨h1, ⟨h2, h3, fun e => ?_⟩, ⟨h5, h6, fun e => ?_⟩, ⟨h8, h9, fun e => ?_⟩, h11, h12⟩
  · rcases h4 with h4 | h4
    · rw [e] at h4; cases h4
    · exact h4
  · rcases h7 with h7 | h7
    · rw [e] at h7; cases h7
    · exact h7
  · rcases h10 with h10 | h10
    · rw [e] at h10; cases h10
    · exact h10
section
variable {op p bits lo hi : Int} {sd sa sb sign is : Bool}
theorem isaEnc (k : Nat) (d a b i : Int) (h : Cl op p sd sa sb bits sign is lo hi) (hok : ok d a b i sd sa sb is lo hi = true) : isa_Encode.f (k + 7) op d a b i = some (E op d a b i bits, 0) := by
  have hp := parts k h
  have hc := check k d a b i h
  rw [if_pos hok] at hc
  obtain ⟨_, ⟨d1, d2, d3⟩, ⟨a1, a2, a3⟩, ⟨b1, b2, b3⟩, i1, i2⟩ := ok_out hok
  unfold isa_Encode.f E
  rw [hc, hp]
  simp only [Option.bind_some, if_true]
  clear hp hc hok
  rcases h with ⟨h, rfl, rfl, rfl, rfl, rfl, rfl, rfl, rfl, rfl⟩ | ⟨rfl | rfl | rfl, rfl, rfl, rfl, rfl, rfl, rfl, rfl, rfl, rfl⟩ | ⟨rfl | rfl, rfl, rfl, rfl, rfl, rfl, rfl, rfl, rfl, rfl⟩ | ⟨rfl, rfl, rfl, rfl, rfl, rfl, rfl, rfl, rfl, rfl⟩ | ⟨rfl, rfl, rfl, rfl, rfl, rfl, rfl, rfl, rfl, rfl⟩ | ⟨rfl | rfl, rfl, rfl, rfl, rfl, rfl, rfl, rfl, rfl, rfl⟩ | ⟨rfl | rfl, rfl, rfl, rfl, rfl, rfl, rfl, rfl, rfl, rfl⟩ | ⟨rfl | rfl | rfl, rfl, rfl, rfl, rfl, rfl, rfl, rfl, rfl, rfl⟩ | ⟨rfl, rfl, rfl, rfl, rfl, rfl, rfl, rfl, rfl, rfl⟩ | ⟨rfl, rfl, rfl, rfl, rfl, rfl, rfl, rfl, rfl, rfl⟩ | ⟨⟨h1, h2⟩, rfl, rfl, rfl, rfl, rfl, rfl, rfl, rfl, rfl⟩
  all_goals simp only [b263_1, b263_2, b263_4, b263_8, b263_16, b263_32, b263_64, b263_80, b263_128, b263_256, b267_1, b267_2, b267_4, b267_8, b267_16, b267_32, b267_64, b267_80, b267_128, b267_256, b139_1, b139_2, b139_4, b139_8, b139_16, b139_32, b139_64, b139_80, b139_128, b139_256, b265_1, b265_2, b265_4, b265_8, b265_16, b265_32, b265_64, b265_80, b265_128, b265_256, b401_1, b401_2, b401_4, b401_8, b401_16, b401_32, b401_64, b401_80, b401_128, b401_256, b10_1, b10_2, b10_4, b10_8, b10_16, b10_32, b10_64, b10_80, b10_128, b10_256, b32_1, b32_2, b32_4, b32_8, b32_16, b32_32, b32_64, b32_80, b32_128, b32_256, b2_1, b2_2, b2_4, b2_8, b2_16, b2_32, b2_64, b2_80, b2_128, b2_256, b257_1, b257_2, b257_4, b257_8, b257_16, b257_32, b257_64, b257_80, b257_128, b257_256, b64_1, b64_2, b64_4, b64_8, b64_16, b64_32, b64_64, b64_80, b64_128, b64_256, b0_1, b0_2, b0_4, b0_8, b0_16, b0_32, b0_64, b0_80, b0_128, b0_256]
  all_goals first | (exact absurd (show (false : Bool) = true by assumption) (by decide)) | skip
  all_goals rw [or4 _ d a b (by omega) (by omega) d1 d2 a1 a2 b1 b2]
  all_goals simp only [if_true, show ¬ (32 : Int) = 0 by omega, show ¬ (16 : Int) = 24 by omega, show ¬ (0 : Int) = 24 by omega, if_false]
  all_goals first | rw [and_low _ (by omega) (by omega)] | rw [and_far _ (by omega) (by omega)]
  all_goals first | rw [or_add _ _ 4096 12 (by decide) (by omega) (by omega) (by omega) (by omega) (by omega) (by omega)] | (have hb0 := b3 rfl; rw [or_add _ _ 65536 16 (by decide) (by omega) (by omega) (by omega) (by omega) (by omega) (by omega)]) | (have hb0 := b3 rfl; have ha0 := a3 rfl; have hd0 := d3 rfl; rw [or_add _ _ 16777216 24 (by decide) (by omega) (by omega) (by omega) (by omega) (by omega) (by omega)])
  all_goals (congr 2; omega)
theorem isaEncNo (k : Nat) (d a b i : Int) (h : Cl op p sd sa sb bits sign is lo hi) (hok : ¬ ok d a b i sd sa sb is lo hi = true) : isa_Encode.f (k + 7) op d a b i = some (0, 1) := by
  have hc := check k d a b i h
  rw [if_neg hok] at hc
  unfold isa_Encode.f
  rw [hc]
  rfl
/-- What a word is read as_. -/
def dec (w op : Int) (sd sa sb : Bool) (bits : Int) (sign is : Bool) (lo hi : Int) : Int × Int × Int × Int × Int × Int :=
  if ok (fld w sd 1048576) (fld w sa 65536) (fld w sb 4096) (im w bits sign) sd sa sb is lo hi = true ∧ E op (fld w sd 1048576) (fld w sa 65536) (fld w sb 4096) (im w bits sign) bits = w
  then (op, fld w sd 1048576, fld w sa 65536, fld w sb 4096, im w bits sign, 0) else (0, 0, 0, 0, 0, 1)
end
end Go.Proofs.Ytdhmnjoceeolcaa.FactsDec
end
section
namespace Go.Proofs.Ytdhmnjoceeolcaa.Asm
open Go.RowKit Go.Proofs.YtdhmnjoceeolcaaW.PrintWords Go.Proofs.YtdhmnjoceeolcaaW.PrintLast Go.Proofs.YtdhmnjoceeolcaaW.PrintMore Go.Proofs.Ytdhmnjoceeolcaa.GF
set_option linter.unusedVariables false
set_option linter.unusedSimpArgs false
/-- Whether a line may be. -/
def mayV (x : S37) : Bool := (asm_may.f 7 x.f0 x.f1.f0 x.f1.f1 x.f1.f2 x.f1.f3 x.f1.f4 x.f2).getD false
theorem check_some (op d a b i : Int) : ∃ r, isa_Check.f 7 op d a b i = some r := by
  obtain ⟨p, sd, sa, sb, bits, sign, is, lo, hi, h⟩ := FactsDec.cl op
  exact ⟨_, FactsDec.check 0 d a b i h⟩
theorem may_some (x : S37) : asm_may.f 7 x.f0 x.f1.f0 x.f1.f1 x.f1.f2 x.f1.f3 x.f1.f4 x.f2 = some (mayV x) := by
  have : ∃ r, asm_may.f 7 x.f0 x.f1.f0 x.f1.f1 x.f1.f2 x.f1.f3 x.f1.f4 x.f2 = some r := by
    obtain ⟨r, hr⟩ := check_some x.f1.f0 x.f1.f1 x.f1.f2 x.f1.f3 x.f1.f4
    unfold asm_may.f asm_branches.f
    rw [hr]
    simp only [Option.bind_some]
    repeat' split
    all_goals first | exact ⟨_, rfl⟩ | (simp only [Option.bind_some]; split <;> exact ⟨_, rfl⟩)
  obtain ⟨r, hr⟩ := this
  unfold mayV
  rw [hr]; rfl
/-- How many lines have a label. -/
def cnt (l : List S37) (k : Int) : Nat := l.countP fun x => x.f0 == k
def stands : List S37 → Mm → Mm
  | [], es => es
  | x :: l, es => stands l (up es x.f0 ((get es x.f0).getD 0 + 1))
def stN (l : List S37) (i : Nat) : Mm := stands (l.take i) []
theorem stands_snoc (x : S37) : ∀ (l : List S37) (es : Mm), stands (l ++ [x]) es = up (stands l es) x.f0 ((get (stands l es) x.f0).getD 0 + 1)
  | [], es => rfl
  | y :: l, es => by rw [List.cons_append, stands, stands_snoc x l, stands]
theorem take_snoc {α : Type} (l : List α) (i : Nat) (d : α) (h : i < l.length) : l.take (i + 1) = l.take i ++ [l.getD i d] := by
  rw [List.take_succ_eq_append_getElem h, List.getD_eq_getElem?_getD, List.getElem?_eq_getElem h]; rfl
theorem stN_step (l : List S37) (i : Nat) (h : i < l.length) : stN l (i + 1) = up (stN l i) (l.getD i z37).f0 ((get (stN l i) (l.getD i z37).f0).getD 0 + 1) := by
  unfold stN
  rw [take_snoc l i z37 h, stands_snoc]
theorem stN_get (l : List S37) (k : Int) : ∀ i, i ≤ l.length → (get (stN l i) k).getD 0 = (cnt (l.take i) k : Int)
  | 0, _ => rfl
  | i + 1, h => by
    rw [stN_step l i (by omega), get_up, take_snoc l i z37 (by omega), cnt, List.countP_append, ← cnt]
    have hi := stN_get l k i (by omega)
    by_cases e : k = (l.getD i z37).f0
    · subst e
      rw [if_pos rfl, stN_get l _ i (by omega)]
      simp [List.countP_cons]
    · rw [if_neg e, hi]
      have : ((l.getD i z37).f0 == k) = false := beq_eq_false_iff_ne.2 fun h => e h.symm
      generalize l.getD i z37 = y at *
      simp [List.countP_cons, this]
/-- Whether a line's label is there twice, or where it goes is not there. -/
def badV (l : List S37) (x : S37) : Bool := (decide (0 < x.f0) && decide (1 < (cnt l x.f0 : Int))) || (decide (0 < x.f2) && decide ((cnt l x.f2 : Int) = 0))
def checkV (l : List S37) : Int := if 262144 < l.length then 3 else if l.all mayV = true then (if l.any (badV l) = true then 60 else 0) else 1
theorem cnt_le (l : List S37) (k : Int) : cnt l k ≤ l.length := List.countP_le_length
theorem all_take {α : Type} (l : List α) (p : α → Bool) (d : α) (i : Nat) (h : i < l.length) (h1 : (l.take i).all p = true) (h2 : p (l.getD i d) = true) : (l.take (i + 1)).all p = true := by
  rw [take_snoc l i d h, List.all_append, h1]; generalize l.getD i d = y at *; simp [h2]
theorem any_take {α : Type} (l : List α) (p : α → Bool) (d : α) (i : Nat) (h : i < l.length) (h1 : (l.take i).any p = false) (h2 : p (l.getD i d) = false) : (l.take (i + 1)).any p = false := by
  rw [take_snoc l i d h, List.any_append, h1]; generalize l.getD i d = y at *; simp [h2]
theorem getD_mem {α : Type} (l : List α) (d : α) (i : Nat) (h : i < l.length) : l.getD i d ∈ l := by
  rw [List.getD_eq_getElem?_getD, List.getElem?_eq_getElem h]; exact List.getElem_mem h
theorem all_no {α : Type} (l : List α) (p : α → Bool) (d : α) (i : Nat) (h : i < l.length) (h2 : p (l.getD i d) = false) : ¬ l.all p = true := fun e => by
  rw [List.all_eq_true] at e
  rw [e _ (getD_mem l d i h)] at h2; cases h2
theorem any_yes {α : Type} (l : List α) (p : α → Bool) (d : α) (i : Nat) (h : i < l.length) (h2 : p (l.getD i d) = true) : l.any p = true := List.any_eq_true.2 ⟨_, getD_mem l d i h, h2⟩
abbrev lb (x : S37) : Obj := .cells #[.int .i64 x.f0, .int .i64 x.f1.f0, .int .i64 x.f1.f1, .int .i64 x.f1.f2, .int .i64 x.f1.f3, .int .i32 x.f1.f4, .int .i64 x.f2] 37 (0, 0)
theorem rd_L (l : List S37) (i : Nat) : rd_T37 l (i : Int) = l.getD i z37 := by unfold rd_T37; rw [Int.toNat_natCast]
theorem ret_i {a b : Int} (h : a = b) : Ending.returned (.int .i64 a) = .returned (.int .i64 b) := by rw [h]
set_option maxHeartbeats 16000000 in
set_option maxRecDepth 100000 in
theorem check_calls {w : World} {A : Option Addr} {l : List S37} {c : Nat} (hL : Aside0 (Kd.C k37 w A l.length l)) :
    Calls Try.prog 11 #[.slice A l.length c] w fun e w' => e = .returned (.int .i64 (checkV l)) ∧ Below w.heap.size w w' := by
  have hmx := Kd.C_max hL.out
  have hmm := @run_makeMap Try.prog
  by_cases hlen : 262144 < l.length
  · have hv : Aside0 (checkV l = 3) := ⟨by unfold checkV; rw [if_pos hlen]⟩
    go_enter Try.func11, Try.ntmps11
    go_wp2_with fail
    go_ret
    exact ⟨ret_i hv.out.symm, Below.refl _ _⟩
  have hle : l.length ≤ 262144 := by omega
  have hno : ∀ i, i < l.length → mayV (l.getD i z37) = false → Aside0 (checkV l = 1) := fun i h h2 => ⟨by unfold checkV; rw [if_neg hlen, if_neg (all_no l mayV z37 i h h2)]⟩
  have hb0 : Aside0 (Below w.heap.size w (w.alloc (.map #[] 0))) := ⟨below_alloc (Below.refl _ _) _⟩
  have hM0 : Aside0 (Mp (w.alloc (.map #[] 0)) w.heap.size (stN l 0)) := ⟨Mp.new w⟩
  go_enter Try.func11, Try.ntmps11
  go_upto_region 4 with (fail)
  generalize w.alloc (.map #[] 0) = W0 at *
  go_wp2_with fail
  go_loopw [14] (fun u14 wr => ∃ i : Nat, i ≤ l.length ∧ u14 = .int .i64 i ∧ Aside0 (Below w.heap.size w wr) ∧ Aside0 (Mp wr w.heap.size (stN l i)) ∧ Aside0 ((l.take i).all mayV = true)) (fun u _ => l.length - (intOf u).toNat)
  case atStart => exact ⟨0, Nat.zero_le _, rfl, hb0, hM0, ⟨rfl⟩⟩
  case round =>
    clear hb0 hM0
    obtain ⟨i, hi, rfl, hb, hM, hall⟩ := hrel
    by_cases hlt : i < l.length
    · obtain ⟨ad, ea, a0, a1, a2, a3, a4, a5, a6⟩ := at_T37 (Kd.C_below hL.out hb.out) (i : Int) (by omega) (by omega)
      subst ea
      simp only [Int.toNat_natCast, rd_L] at a0 a1 a2 a3 a4 a5 a6
      have hX := Aside0.mk (blk_new wr (lb (l.getD i z37)))
      have hB := Aside0.mk (below_step hb.out (below_alloc (Below.refl wr.heap.size wr) (lb (l.getD i z37))))
      replace hM := Aside0.mk (hM.out.below (below_alloc (Below.refl wr.heap.size wr) (lb (l.getD i z37))))
      have q0 : (0 : Int) ≤ (i : Int) := by omega
      have q1 : (i : Int) < (l.length : Int) := by omega
      have hms := Aside0.mk (may_some (l.getD i z37))
      have hst := Aside0.mk (stN_step l i hlt)
      have hcn := Aside0.mk (stN_get l (l.getD i z37).f0 i hi)
      have hcb : Aside0 (cnt (l.take i) (l.getD i z37).f0 ≤ 262144) := ⟨by have := cnt_le (l.take i) (l.getD i z37).f0; rw [List.length_take] at this; omega⟩
      have hno2 := hno i hlt
      have hal2 := fun h => Aside0.mk (all_take l mayV z37 i hlt hall.out h)
      clear hno hall
      generalize l.getD i z37 = x at *
      go_upto_region 7 with (fail)
      generalize wr.alloc (lb x) = W at *
      have p0 := (blk_cell hX.out 0).trans (show _ = some (.int .i64 x.f0) from rfl)
      have p1 := (blk_cell hX.out 1).trans (show _ = some (.int .i64 x.f1.f0) from rfl)
      have p2 := (blk_cell hX.out 2).trans (show _ = some (.int .i64 x.f1.f1) from rfl)
      have p3 := (blk_cell hX.out 3).trans (show _ = some (.int .i64 x.f1.f2) from rfl)
      have p4 := (blk_cell hX.out 4).trans (show _ = some (.int .i64 x.f1.f3) from rfl)
      have p5 := (blk_cell hX.out 5).trans (show _ = some (.int .i32 x.f1.f4) from rfl)
      have p6 := (blk_cell hX.out 6).trans (show _ = some (.int .i64 x.f2) from rfl)
      cases hmv : mayV x
      · have hq := hno2 hmv
        rw [hmv] at hms
        clear hno2 hal2
        replace hmv := Aside0.mk hmv
        go_wp2_with (go_at_call 23; (with_reducible refine (asm_may.calls 7 _ _ _ _ _ _ _ false _ hms.out).mono ?_); rintro e w1 ⟨rfl, hb1⟩; replace hb1 := Aside0.mk hb1)
        go_ret
        exact ⟨ret_i hq.out.symm, below_step hB.out hb1.out⟩
      · have hq := hal2 hmv
        rw [hmv] at hms
        clear hno2 hal2
        replace hmv := Aside0.mk hmv
        go_upto_region 9 with (go_at_call 23; (with_reducible refine (asm_may.calls 7 _ _ _ _ _ _ _ true _ hms.out).mono ?_); rintro e w1 ⟨rfl, hb1⟩; replace hb1 := Aside0.mk hb1)
        clear p0 p1 p2 p3 p4 p5 p6
        have hB2 := Aside0.mk (below_step hB.out hb1.out)
        replace hM := Aside0.mk (hM.out.below hb1.out)
        have p0 := (blk_cell (blk_below hX.out hb1.out) 0).trans (show _ = some (.int .i64 x.f0) from rfl)
        have hlk := look hM.out x.f0
        have hpt := put hM.out x.f0 ((get (stN l i) x.f0).getD 0 + 1)
        rw [hcn.out] at hlk hpt
        have hB3 := Aside0.mk (put_below hB2.out hM.out (Nat.le_refl _) x.f0 ((cnt (l.take i) x.f0 : Int) + 1))
        have hM3 := Aside0.mk (put_mp hM.out x.f0 ((get (stN l i) x.f0).getD 0 + 1))
        rw [← hst.out, hcn.out] at hM3
        have hwr : IntKind.i64.wrap ((cnt (l.take i) x.f0 : Int) + 1) = (cnt (l.take i) x.f0 : Int) + 1 := IntWalk.i64_in _ (by have := hcb.out; omega)
        clear hM hst hcn
        go_wp2_with fail
        go_roundw
        case rel => exact ⟨i + 1, by omega, by go_num, hB3, hM3, hq⟩
        case measure => simp [intOf]; omega
    · obtain rfl : i = l.length := by omega
      rw [List.take_length] at hall
      have hok : Aside0 (∀ b, l.any (badV l) = b → checkV l = if b = true then 60 else 0) := ⟨fun b hb => by unfold checkV; rw [if_neg hlen, if_pos hall.out, hb]⟩
      have hget := Aside0.mk (fun k => by have := stN_get l k l.length (Nat.le_refl _); rwa [List.take_length] at this : ∀ k, (get (stN l l.length) k).getD 0 = (cnt l k : Int))
      clear hno hall
      go_wp2_with fail
      go_loopw [29] (fun u29 wr => ∃ i : Nat, i ≤ l.length ∧ u29 = .int .i64 i ∧ Aside0 (Below w.heap.size w wr) ∧ Aside0 (Mp wr w.heap.size (stN l l.length)) ∧ Aside0 ((l.take i).any (badV l) = false)) (fun u _ => l.length - (intOf u).toNat)
      case atStart => exact ⟨0, Nat.zero_le _, rfl, hb, hM, ⟨rfl⟩⟩
      case round =>
        clear hb hM
        obtain ⟨i, hi, rfl, hb, hM, hall⟩ := hrel
        by_cases hlt : i < l.length
        · obtain ⟨ad, ea, a0, a1, a2, a3, a4, a5, a6⟩ := at_T37 (Kd.C_below hL.out hb.out) (i : Int) (by omega) (by omega)
          subst ea
          simp only [Int.toNat_natCast, rd_L] at a0 a1 a2 a3 a4 a5 a6
          have hX := Aside0.mk (blk_new wr (lb (l.getD i z37)))
          have hB := Aside0.mk (below_step hb.out (below_alloc (Below.refl wr.heap.size wr) (lb (l.getD i z37))))
          replace hM := Aside0.mk (hM.out.below (below_alloc (Below.refl wr.heap.size wr) (lb (l.getD i z37))))
          have q0 : (0 : Int) ≤ (i : Int) := by omega
          have q1 : (i : Int) < (l.length : Int) := by omega
          have hany := fun h => Aside0.mk (any_take l (badV l) z37 i hlt hall.out h)
          have hyes := fun h => Aside0.mk (hok.out true (any_yes l (badV l) z37 i hlt h))
          have hl1 := look hM.out (l.getD i z37).f0
          have hl2 := look hM.out (l.getD i z37).f2
          rw [hget.out] at hl1 hl2
          clear hall
          generalize l.getD i z37 = x at *
          go_upto_region 14 with (fail)
          generalize wr.alloc (lb x) = W at *
          have hB2 := hB
          have p0 := (blk_cell hX.out 0).trans (show _ = some (.int .i64 x.f0) from rfl)
          have p6 := (blk_cell hX.out 6).trans (show _ = some (.int .i64 x.f2) from rfl)
          by_cases c1 : 0 < x.f0
          · by_cases c2 : 1 < (cnt l x.f0 : Int)
            · have hq := hyes (by skip; simp only [badV, Bool.or_eq_true, Bool.and_eq_true, decide_eq_true_eq]; omega)
              clear hyes hany
              go_wp2_with fail
              go_ret
              exact ⟨ret_i hq.out.symm, hB2.out⟩
            · have e2 : decide (1 < (cnt l x.f0 : Int)) = false := decide_eq_false c2
              replace c2 := Aside0.mk c2
              by_cases c3 : 0 < x.f2
              · by_cases c4 : (cnt l x.f2 : Int) = 0
                · have e4 : ((cnt l x.f2 : Int) == 0) = true := by simpa using c4
                  replace c4 := Aside0.mk c4
                  have hq := hyes (by have h4 := c4.out; simp only [badV, Bool.or_eq_true, Bool.and_eq_true, decide_eq_true_eq]; omega)
                  clear hyes hany
                  go_wp2_with fail
                  go_ret
                  exact ⟨ret_i hq.out.symm, hB2.out⟩
                · have e4 : ((cnt l x.f2 : Int) == 0) = false := by simpa using c4
                  replace c4 := Aside0.mk c4
                  go_wp2_with fail
                  go_roundw
                  case rel => exact ⟨i + 1, by omega, by go_num, hB2, hM, hany (by have h4 := c4.out; have h2 := c2.out; simp only [badV, Bool.or_eq_false_iff, Bool.and_eq_false_iff, decide_eq_false_iff_not]; omega)⟩
                  case measure => simp [intOf]; omega
              · have e3 : decide (0 < x.f2) = false := decide_eq_false c3
                replace c3 := Aside0.mk c3
                go_wp2_with fail
                go_roundw
                case rel => exact ⟨i + 1, by omega, by go_num, hB2, hM, hany (by have h3 := c3.out; have h2 := c2.out; simp only [badV, Bool.or_eq_false_iff, Bool.and_eq_false_iff, decide_eq_false_iff_not]; omega)⟩
                case measure => simp [intOf]; omega
          · have e1 : decide (0 < x.f0) = false := decide_eq_false c1
            replace c1 := Aside0.mk c1
            by_cases c3 : 0 < x.f2
            · by_cases c4 : (cnt l x.f2 : Int) = 0
              · have e4 : ((cnt l x.f2 : Int) == 0) = true := by simpa using c4
                replace c4 := Aside0.mk c4
                have hq := hyes (by have h4 := c4.out; simp only [badV, Bool.or_eq_true, Bool.and_eq_true, decide_eq_true_eq]; omega)
                clear hyes hany
                go_wp2_with fail
                go_ret
                exact ⟨ret_i hq.out.symm, hB2.out⟩
              · have e4 : ((cnt l x.f2 : Int) == 0) = false := by simpa using c4
                replace c4 := Aside0.mk c4
                go_wp2_with fail
                go_roundw
                case rel => exact ⟨i + 1, by omega, by go_num, hB2, hM, hany (by have h4 := c4.out; have h1 := c1.out; simp only [badV, Bool.or_eq_false_iff, Bool.and_eq_false_iff, decide_eq_false_iff_not]; omega)⟩
                case measure => simp [intOf]; omega
            · have e3 : decide (0 < x.f2) = false := decide_eq_false c3
              replace c3 := Aside0.mk c3
              go_wp2_with fail
              go_roundw
              case rel => exact ⟨i + 1, by omega, by go_num, hB2, hM, hany (by have h3 := c3.out; have h1 := c1.out; simp only [badV, Bool.or_eq_false_iff, Bool.and_eq_false_iff, decide_eq_false_iff_not]; omega)⟩
              case measure => simp [intOf]; omega
        · obtain rfl : i = l.length := by omega
          rw [List.take_length] at hall
          have hq := Aside0.mk (hok.out false hall.out)
          go_wp2_with fail
          go_ret
          exact ⟨ret_i hq.out.symm, hb.out⟩
end Go.Proofs.Ytdhmnjoceeolcaa.Asm
end
section
namespace Go.Proofs.Ytdhmnjoceeolcaa.Asm
open Go.RowKit Go.Proofs.YtdhmnjoceeolcaaW.PrintWords Go.Proofs.YtdhmnjoceeolcaaW.PrintLast Go.Proofs.YtdhmnjoceeolcaaW.PrintMore Go.Proofs.Ytdhmnjoceeolcaa.GF
set_option linter.unusedVariables false
set_option linter.unusedSimpArgs false
end Go.Proofs.Ytdhmnjoceeolcaa.Asm
end
section
namespace Go.Proofs.Ytdhmnjoceeolcaa.Asm
open Go.RowKit Go.Proofs.YtdhmnjoceeolcaaW.PrintWords Go.Proofs.YtdhmnjoceeolcaaW.PrintLast Go.Proofs.YtdhmnjoceeolcaaW.PrintMore Go.Proofs.Ytdhmnjoceeolcaa.GF Go.Proofs.Ytdhmnjoceeolcaa.FactsDec
set_option linter.unusedVariables false
set_option linter.unusedSimpArgs false
end Go.Proofs.Ytdhmnjoceeolcaa.Asm
end
section
namespace Go.Proofs.Ytdhmnjoceeolcaa.Asm
open Go.RowKit Go.Proofs.YtdhmnjoceeolcaaW.PrintWords Go.Proofs.YtdhmnjoceeolcaaW.PrintLast Go.Proofs.YtdhmnjoceeolcaaW.PrintMore Go.Proofs.Ytdhmnjoceeolcaa.GF
set_option linter.unusedVariables false
set_option linter.unusedSimpArgs false
theorem cnt_pos (l : List S37) (k : Int) : 0 < cnt l k ↔ ∃ i, i < l.length ∧ (l.getD i z37).f0 = k := by
  unfold cnt
  rw [List.countP_pos_iff]
  constructor
  · rintro ⟨x, hx, h⟩
    obtain ⟨i, hi, e⟩ := List.getElem_of_mem hx
    exact ⟨i, hi, by rw [List.getD_eq_getElem?_getD, List.getElem?_eq_getElem hi]; subst e; simpa using h⟩
  · rintro ⟨i, hi, h⟩
    exact ⟨_, getD_mem l z37 i hi, by simpa using h⟩
theorem cnt_two (k : Int) : ∀ l : List S37, 1 < cnt l k ↔ ∃ p q, p < q ∧ q < l.length ∧ (l.getD p z37).f0 = k ∧ (l.getD q z37).f0 = k
  | [] => by simp [cnt]
  | x :: l => by
    have ih := cnt_two k l
    have hp := cnt_pos l k
    have hc : cnt (x :: l) k = cnt l k + if x.f0 = k then 1 else 0 := by
      unfold cnt
      rw [List.countP_cons]
      by_cases h : x.f0 = k
      · simp [h]
      · simp [h]
    rw [hc]
    constructor
    · intro h
      by_cases hx : x.f0 = k
      · rw [if_pos hx] at h
        obtain ⟨i, hi, e⟩ := hp.1 (by omega)
        exact ⟨0, i + 1, by omega, by simp; omega, hx, e⟩
      · rw [if_neg hx] at h
        obtain ⟨p, q, h1, h2, h3, h4⟩ := ih.1 (by omega)
        exact ⟨p + 1, q + 1, by omega, by simp; omega, h3, h4⟩
    · rintro ⟨p, q, h1, h2, h3, h4⟩
      obtain ⟨q, rfl⟩ : ∃ q', q = q' + 1 := ⟨q - 1, by omega⟩
      have hq : q < l.length := by simpa using h2
      cases p with
      | zero =>
        rw [if_pos (show x.f0 = k from h3)]
        have := hp.2 ⟨q, hq, h4⟩
        omega
      | succ p =>
        have := ih.2 ⟨p, q, by omega, hq, h3, h4⟩
        split <;> omega
end Go.Proofs.Ytdhmnjoceeolcaa.Asm
end
section
namespace Go.Proofs.Ytdhmnjoceeolcaa.Asm
open Go.RowKit Go.Proofs.YtdhmnjoceeolcaaW.PrintWords Go.Proofs.YtdhmnjoceeolcaaW.PrintLast Go.Proofs.YtdhmnjoceeolcaaW.PrintMore Go.Proofs.Ytdhmnjoceeolcaa.GF
set_option linter.unusedVariables false
set_option linter.unusedSimpArgs false
abbrev PP (b : Nat) : Value := .pointer (some ⟨b, 0, none⟩)
def is (l : List Int) : Array Value := (l.map (Value.int .i64)).toArray
def bs (l : List Bool) : Array Value := (l.map Value.bool).toArray
theorem is_cell {w : World} {g : Nat} {l : List Int} (h : w.heap[g]? = some (.cells (is l) 3 (0, 0))) (i : Nat) (hi : i < l.length) : w.cell? ⟨g, i, none⟩ = some (.int .i64 (l.getD i 0)) := by
  rw [blk_cell h i]
  simp [is, List.getD_eq_getElem?_getD, List.getElem?_eq_getElem hi]
theorem is_set {w : World} {g : Nat} {l : List Int} (h : w.heap[g]? = some (.cells (is l) 3 (0, 0))) (i : Nat) (x : Int) : (w.setCell ⟨g, i, none⟩ (.int .i64 x)).heap[g]? = some (.cells (is (l.set i x)) 3 (0, 0)) := by
  rw [blk_set h i (.int .i64 x)]; simp [is, List.map_set]
theorem bs_cell {w : World} {g : Nat} {l : List Bool} (h : w.heap[g]? = some (.cells (bs l) 4 (0, 0))) (i : Nat) (hi : i < l.length) : w.cell? ⟨g, i, none⟩ = some (.bool (l.getD i false)) := by
  rw [blk_cell h i]
  simp [bs, List.getD_eq_getElem?_getD, List.getElem?_eq_getElem hi]
theorem bs_set {w : World} {g : Nat} {l : List Bool} (h : w.heap[g]? = some (.cells (bs l) 4 (0, 0))) (i : Nat) (x : Bool) : (w.setCell ⟨g, i, none⟩ (.bool x)).heap[g]? = some (.cells (bs (l.set i x)) 4 (0, 0)) := by
  rw [blk_set h i (.bool x)]; simp [bs, List.map_set]
/-- How many words a line has. -/
def szV (x : S37) (b : Bool) : Int := if 0 < x.f0 then 0 else if b = true then 2 else 1
/-- Where a line begins. -/
def atV (l : List S37) (g : List Bool) : Nat → Int
  | 0 => 0
  | i + 1 => atV l g i + szV (l.getD i z37) (g.getD i false)
/-- Where labels stand. -/
def whM (l : List S37) (g : List Bool) (m : Mm) : Nat → Mm
  | 0 => m
  | i + 1 => if 0 < (l.getD i z37).f0 then up (whM l g m i) (l.getD i z37).f0 (atV l g i) else whM l g m i
theorem szV_range (x : S37) (b : Bool) : 0 ≤ szV x b ∧ szV x b ≤ 2 := by unfold szV; split; omega; split <;> omega
theorem atV_range (l : List S37) (g : List Bool) : ∀ i, 0 ≤ atV l g i ∧ atV l g i ≤ 2 * i
  | 0 => ⟨Int.le_refl _, Int.le_refl _⟩
  | i + 1 => by
    have := atV_range l g i
    have := szV_range (l.getD i z37) (g.getD i false)
    unfold atV
    omega
def ats (l : List S37) (g : List Bool) : List Int := (List.range (l.length + 1)).map (atV l g)
theorem ats_len (l : List S37) (g : List Bool) : (ats l g).length = l.length + 1 := by simp [ats]
theorem ats_at (l : List S37) (g : List Bool) (i : Nat) (h : i < l.length + 1) : (ats l g).getD i 0 = atV l g i := by
  simp [ats, List.getD_eq_getElem?_getD, h]
theorem ats_of (l : List S37) (g : List Bool) (a : List Int) (h : a.length = l.length + 1) (k : ∀ i, i < l.length + 1 → a.getD i 0 = atV l g i) : a = ats l g := by
  apply List.ext_getElem (by rw [h, ats_len])
  intro i h1 h2
  have := k i (by omega)
  rw [← ats_at l g i (by omega)] at this
  rwa [List.getD_eq_getElem?_getD, List.getElem?_eq_getElem h1, List.getD_eq_getElem?_getD, List.getElem?_eq_getElem h2] at this
/-- A layout in memory. -/
structure Ly (w wr : World) (n p ga gl m : Nat) (a : List Int) (g : List Bool) (es : Mm) : Prop where
  bp : wr.heap[p]? = some (.cells #[.slice (some ⟨ga, 0, none⟩) (n + 1) (n + 1), .slice (some ⟨gl, 0, none⟩) n n, .map (some m)] 50 (0, 0))
  ba : wr.heap[ga]? = some (.cells (is a) 3 (0, 0))
  bl : wr.heap[gl]? = some (.cells (bs g) 4 (0, 0))
  mp : Mp wr m es
  hp : w.heap.size ≤ p
  ha : w.heap.size ≤ ga
  hl : w.heap.size ≤ gl
  hm : w.heap.size ≤ m
  la : a.length = n + 1
  lg : g.length = n
  bel : Below w.heap.size w wr
section
variable {w wr w1 : World} {n p ga gl m : Nat} {a : List Int} {g : List Bool} {es : Mm}
theorem Ly.below (h : Ly w wr n p ga gl m a g es) (b : Below wr.heap.size wr w1) : Ly w w1 n p ga gl m a g es :=
  { h with bp := blk_below h.bp b, ba := blk_below h.ba b, bl := blk_below h.bl b, mp := h.mp.below b, bel := below_step h.bel b }
theorem Ly.setA (h : Ly w wr n p ga gl m a g es) (i : Nat) (x : Int) : Ly w (wr.setCell ⟨ga, i, none⟩ (.int .i64 x)) n p ga gl m (a.set i x) g es :=
  { h with bp := blk_far h.bp (blk_ne h.bp h.ba (by decide)) _, ba := is_set h.ba i x, bl := blk_far h.bl (blk_ne h.bl h.ba (by decide)) _, mp := h.mp.keep (Below.heap_setCell _ _ _ _ (fun e => (h.mp.cells h.ba) e.symm)), la := by rw [List.length_set]; exact h.la, bel := below_set h.bel h.ha }
theorem Ly.setL (h : Ly w wr n p ga gl m a g es) (i : Nat) (x : Bool) : Ly w (wr.setCell ⟨gl, i, none⟩ (.bool x)) n p ga gl m a (g.set i x) es :=
  { h with bp := blk_far h.bp (blk_ne h.bp h.bl (by decide)) _, ba := blk_far h.ba (blk_ne h.ba h.bl (by decide)) _, bl := bs_set h.bl i x, mp := h.mp.keep (Below.heap_setCell _ _ _ _ (fun e => (h.mp.cells h.bl) e.symm)), lg := by rw [List.length_set]; exact h.lg, bel := below_set h.bel h.hl }
theorem Ly.put (h : Ly w wr n p ga gl m a g es) (k x : Int) : Ly w (putM wr m k x) n p ga gl m a g (up es k x) :=
  { h with bp := (put_block h.mp k x _ (h.mp.cells h.bp)).trans h.bp, ba := (put_block h.mp k x _ (h.mp.cells h.ba)).trans h.ba, bl := (put_block h.mp k x _ (h.mp.cells h.bl)).trans h.bl, mp := put_mp h.mp k x, bel := put_below h.bel h.mp h.hm k x }
end
theorem size_some (x : S37) (b : Bool) : asm_size.f x.f0 x.f1.f0 x.f1.f1 x.f1.f2 x.f1.f3 x.f1.f4 x.f2 b = some (szV x b) := by
  unfold asm_size.f szV
  by_cases h : 0 < x.f0
  · rw [if_pos h, if_pos h]
  · rw [if_neg h, if_neg h]; split <;> rfl
set_option maxHeartbeats 16000000 in
set_option maxRecDepth 100000 in
theorem place_calls {w w0 : World} {A : Option Addr} {l : List S37} {c : Nat} (hL : Aside0 (Kd.C k37 w A l.length l)) (hlen : l.length ≤ 262144) {p ga gl m : Nat} {a : List Int} {g : List Bool} {es : Mm} (hY : Aside0 (Ly w w0 l.length p ga gl m a g es)) :
    Calls Try.prog 28 #[PP p, .slice A l.length c] w0 fun e w' => e = .returned (.tuple #[]) ∧ Ly w w' l.length p ga gl m (ats l g) g (whM l g es l.length) := by
  go_enter Try.func28, Try.ntmps28
  go_wp2_with fail
  go_loopw [4, 9] (fun u4 u9 wr => ∃ (i : Nat) (a' : List Int) (es' : Mm), i ≤ l.length ∧ u4 = .int .i64 (atV l g i) ∧ u9 = .int .i64 i ∧ Aside0 (Ly w wr l.length p ga gl m a' g es') ∧ Aside0 (∀ j, j < i → a'.getD j 0 = atV l g j) ∧ Aside0 (es' = whM l g es i)) (fun _ u _ => l.length - (intOf u).toNat)
  case atStart => exact ⟨0, _, _, Nat.zero_le _, rfl, rfl, hY, ⟨fun j hj => by omega⟩, ⟨rfl⟩⟩
  case round =>
    clear hY
    obtain ⟨i, a', es', hi, rfl, rfl, hY, ha, hes⟩ := hrel
    have hr1 := (atV_range l g i).1
    have hr2 := (atV_range l g i).2
    by_cases hlt : i < l.length
    · obtain ⟨ad, ea, a0, a1, a2, a3, a4, a5, a6⟩ := at_T37 (Kd.C_below hL.out hY.out.bel) (i : Int) (by omega) (by omega)
      subst ea
      simp only [Int.toNat_natCast, rd_L] at a0 a1 a2 a3 a4 a5 a6
      have hat : Aside0 (atV l g (i + 1) = atV l g i + szV (l.getD i z37) (g.getD i false)) := ⟨rfl⟩
      have hwh : Aside0 (whM l g es (i + 1) = if 0 < (l.getD i z37).f0 then up (whM l g es i) (l.getD i z37).f0 (atV l g i) else whM l g es i) := ⟨rfl⟩
      obtain ⟨bb, hbe⟩ : ∃ bb, Aside0 (g.getD i false = bb) := ⟨_, ⟨rfl⟩⟩
      rw [hbe.out] at hat
      have hX := Aside0.mk (blk_new wr (lb (l.getD i z37)))
      replace hY := Aside0.mk (hY.out.below (below_alloc (Below.refl wr.heap.size wr) (lb (l.getD i z37))))
      have hXn : Aside0 (wr.heap.size < (wr.alloc (lb (l.getD i z37))).heap.size) := ⟨by simp⟩
      have hga : Aside0 (ga ≠ wr.heap.size) := ⟨fun e => by have := hY.out.ba; rw [e, hX.out] at this; have := (Option.some.inj this); injection this with h1 h2; exact absurd h2 (by decide)⟩
      have q0 : (0 : Int) ≤ (i : Int) := by omega
      have q1 : (i : Int) < (l.length : Int) := by omega
      have q2 : (i : Int) < (l.length : Int) + 1 := by omega
      have ap1 := add_plain ga i
      have ap2 := add_plain gl i
      have hsz := Aside0.mk (size_some (l.getD i z37) bb)
      have hs1 := (szV_range (l.getD i z37) bb).1
      have hs2 := (szV_range (l.getD i z37) bb).2
      generalize l.getD i z37 = x at *
      go_upto_region 4 with (fail)
      generalize wr.alloc (lb x) = W at *
      generalize wr.heap.size = xb at *
      have y0 := (blk_cell hY.out.bp 0).trans (show _ = some (.slice (some ⟨ga, 0, none⟩) (l.length + 1) (l.length + 1)) from rfl)
      have y1 := (blk_cell hY.out.bp 1).trans (show _ = some (.slice (some ⟨gl, 0, none⟩) l.length l.length) from rfl)
      have y2 := (blk_cell hY.out.bp 2).trans (show _ = some (.map (some m)) from rfl)
      have hca : W.cell? ⟨ga, i, none⟩ = some (.int .i64 (a'.getD i 0)) := is_cell hY.out.ba i (by rw [hY.out.la]; omega)
      have hfa : W.frozen? ⟨ga, i, none⟩ = false := blk_frozen hY.out.ba i
      go_upto_region 5 with (fail)
      replace hX := Aside0.mk (blk_far hX.out (p := ⟨ga, i, none⟩) (fun e => hga.out e.symm) (.int .i64 (atV l g i)))
      replace hY := Aside0.mk (hY.out.setA i (atV l g i))
      have ha2 : Aside0 (∀ j, j < i + 1 → (a'.set i (atV l g i)).getD j 0 = atV l g j) := ⟨fun j hj => by
        by_cases e : j = i
        · subst e
          have hl : j < a'.length := by have := hY.out.la; rw [List.length_set] at this; omega
          rw [List.getD_eq_getElem?_getD, List.getElem?_set_self hl]; rfl
        · rw [List.getD_eq_getElem?_getD, List.getElem?_set_ne (fun h => e h.symm), ← List.getD_eq_getElem?_getD]; exact ha.out j (by omega)⟩
      generalize W.setCell ⟨ga, i, none⟩ (.int .i64 (atV l g i)) = W5 at *
      clear y0 y1 y2 hca hfa ha
      generalize a'.set i (atV l g i) = a2 at *
      have p0 := (blk_cell hX.out 0).trans (show _ = some (.int .i64 x.f0) from rfl)
      have p1 := (blk_cell hX.out 1).trans (show _ = some (.int .i64 x.f1.f0) from rfl)
      have p2 := (blk_cell hX.out 2).trans (show _ = some (.int .i64 x.f1.f1) from rfl)
      have p3 := (blk_cell hX.out 3).trans (show _ = some (.int .i64 x.f1.f2) from rfl)
      have p4 := (blk_cell hX.out 4).trans (show _ = some (.int .i64 x.f1.f3) from rfl)
      have p5 := (blk_cell hX.out 5).trans (show _ = some (.int .i32 x.f1.f4) from rfl)
      have p6 := (blk_cell hX.out 6).trans (show _ = some (.int .i64 x.f2) from rfl)
      have hwr : IntKind.i64.wrap (atV l g i + szV x bb) = atV l g i + szV x bb := IntWalk.i64_in _ (by omega)
      rw [← hes.out] at hwh
      by_cases hx0 : 0 < x.f0
      · rw [if_pos hx0] at hwh
        have y2 := (blk_cell hY.out.bp 2).trans (show _ = some (.map (some m)) from rfl)
        go_upto_region 6 with (fail)
        go_still_tail 7, (by kernel_rfl)
        change wpList _ _ _ _ _ W5.drew
        replace hX : Aside0 (W5.drew.heap[xb]? = _) := ⟨hX.out⟩
        replace hY := Aside0.mk (hY.out.below (below_drew (Below.refl _ _)))
        generalize W5.drew = W6 at *
        have hpt := put hY.out.mp x.f0 (atV l g i)
        have hXm : Aside0 ((putM W6 m x.f0 (atV l g i)).heap[xb]? = _) := ⟨(put_block hY.out.mp x.f0 (atV l g i) xb (hY.out.mp.cells hX.out)).trans hX.out⟩
        replace hY := Aside0.mk (hY.out.put x.f0 (atV l g i))
        replace hes : Aside0 (up es' x.f0 (atV l g i) = whM l g es (i + 1)) := ⟨hwh.out.symm⟩
        clear hX y2 p0 p1 p2 p3 p4 p5 p6
        go_upto_region 7 with (fail)
        generalize putM W6 m x.f0 (atV l g i) = W7 at *
        clear hpt
        have hX := hXm
        have p0 := (blk_cell hX.out 0).trans (show _ = some (.int .i64 x.f0) from rfl)
        have p1 := (blk_cell hX.out 1).trans (show _ = some (.int .i64 x.f1.f0) from rfl)
        have p2 := (blk_cell hX.out 2).trans (show _ = some (.int .i64 x.f1.f1) from rfl)
        have p3 := (blk_cell hX.out 3).trans (show _ = some (.int .i64 x.f1.f2) from rfl)
        have p4 := (blk_cell hX.out 4).trans (show _ = some (.int .i64 x.f1.f3) from rfl)
        have p5 := (blk_cell hX.out 5).trans (show _ = some (.int .i32 x.f1.f4) from rfl)
        have p6 := (blk_cell hX.out 6).trans (show _ = some (.int .i64 x.f2) from rfl)
        have y1 := (blk_cell hY.out.bp 1).trans (show _ = some (.slice (some ⟨gl, 0, none⟩) l.length l.length) from rfl)
        have hcl := bs_cell hY.out.bl i (by rw [hY.out.lg]; exact hlt)
        rw [hbe.out] at hcl
        go_upto_region 7 with (fail)
        refine start_ (n := 12) (S := fun w' => w'.cell? ⟨xb, 0, none⟩ = some (.int .i64 x.f0) ∧ w'.cell? ⟨xb, 1, none⟩ = some (.int .i64 x.f1.f0) ∧ w'.cell? ⟨xb, 2, none⟩ = some (.int .i64 x.f1.f1) ∧ w'.cell? ⟨xb, 3, none⟩ = some (.int .i64 x.f1.f2) ∧ w'.cell? ⟨xb, 4, none⟩ = some (.int .i64 x.f1.f3) ∧ w'.cell? ⟨xb, 5, none⟩ = some (.int .i32 x.f1.f4) ∧ w'.cell? ⟨xb, 6, none⟩ = some (.int .i64 x.f2) ∧ w'.cell? ⟨p, 1, none⟩ = some (.slice (some ⟨gl, 0, none⟩) l.length l.length) ∧ w'.cell? ⟨gl, i, none⟩ = some (.bool bb)) (ds := []) #[false, false, false, false, false, false, false, false, false, false, false, false] (by kernel_rfl) rfl rfl (⟨(blk_cell hX.out 0).trans rfl, (blk_cell hX.out 1).trans rfl, (blk_cell hX.out 2).trans rfl, (blk_cell hX.out 3).trans rfl, (blk_cell hX.out 4).trans rfl, (blk_cell hX.out 5).trans rfl, (blk_cell hX.out 6).trans rfl, (blk_cell hY.out.bp 1).trans rfl, (bs_cell hY.out.bl i (by rw [hY.out.lg]; exact hlt)).trans (by rw [hbe.out])⟩) (fun hHeld => ?_)
        replace hX : Aside0 (W7.drew.heap[xb]? = _) := ⟨hX.out⟩
        replace hY := Aside0.mk (hY.out.below (below_drew (Below.refl _ _)))
        clear p0 p1 p2 p3 p4 p5 p6 y1 hcl
        generalize W7.drew = W9 at *
        refine pure_ (i := 0) (N := some 31) (v := ?_) (a' := ?_) #[true, false, false, false, false, false, false, false, false, false, false, false] rfl rfl (by kernel_rfl) (fun _ _ _ h => h) (Or.inl ⟨by rfl, ?_⟩) ?_ ?_
        rotate_left
        · intro w'
          go_simp
          try with_reducible rfl
        rotate_left
        · simp only [Act.put, List.setIfInBounds_toArray, List.set_cons_zero, List.set_cons_succ]
          rfl
        refine take_ (i := 1) (N := some 32) (v := ?_) (a' := ?_) #[true, true, false, false, false, false, false, false, false, false, false, false] rfl rfl (by kernel_rfl) (fun _ _ _ h => h) (Or.inl ⟨by rfl, ?_⟩) hHeld ?_ ?_
        rotate_left
        · intro w' s0
          obtain ⟨s0_, s1_, s2_, s3_, s4_, s5_, s6_, s7_, s8_⟩ := s0
          go_simp
          try with_reducible rfl
        rotate_left
        · simp only [Act.put, List.setIfInBounds_toArray, List.set_cons_zero, List.set_cons_succ]
          rfl
        refine pure_ (i := 2) (N := some 33) (v := ?_) (a' := ?_) #[true, true, true, false, false, false, false, false, false, false, false, false] rfl rfl (by kernel_rfl) (fun _ _ _ h => h) (Or.inl ⟨by rfl, ?_⟩) ?_ ?_
        rotate_left
        · intro w'
          go_simp
          try with_reducible rfl
        rotate_left
        · simp only [Act.put, List.setIfInBounds_toArray, List.set_cons_zero, List.set_cons_succ]
          rfl
        refine pure_ (i := 3) (N := some 34) (v := ?_) (a' := ?_) #[true, true, true, true, false, false, false, false, false, false, false, false] rfl rfl (by kernel_rfl) (fun _ _ _ h => h) (Or.inl ⟨by rfl, ?_⟩) ?_ ?_
        rotate_left
        · intro w'
          go_simp
          try with_reducible rfl
        rotate_left
        · simp only [Act.put, List.setIfInBounds_toArray, List.set_cons_zero, List.set_cons_succ]
          rfl
        refine pure_ (i := 4) (N := some 35) (v := ?_) (a' := ?_) #[true, true, true, true, true, false, false, false, false, false, false, false] rfl rfl (by kernel_rfl) (fun _ _ _ h => h) (Or.inl ⟨by rfl, ?_⟩) ?_ ?_
        rotate_left
        · intro w'
          go_simp
          try with_reducible rfl
        rotate_left
        · simp only [Act.put, List.setIfInBounds_toArray, List.set_cons_zero, List.set_cons_succ]
          rfl
        refine take_ (i := 5) (N := some 36) (v := ?_) (a' := ?_) #[true, true, true, true, true, true, false, false, false, false, false, false] rfl rfl (by kernel_rfl) (fun _ _ _ h => h) (Or.inl ⟨by rfl, ?_⟩) hHeld ?_ ?_
        rotate_left
        · intro w' s0
          obtain ⟨s0_, s1_, s2_, s3_, s4_, s5_, s6_, s7_, s8_⟩ := s0
          go_simp
          try with_reducible rfl
        rotate_left
        · simp only [Act.put, List.setIfInBounds_toArray, List.set_cons_zero, List.set_cons_succ]
          rfl
        refine pure_ (i := 6) (N := some 37) (v := ?_) (a' := ?_) #[true, true, true, true, true, true, true, false, false, false, false, false] rfl rfl (by kernel_rfl) (fun _ _ _ h => h) (Or.inl ⟨by rfl, ?_⟩) ?_ ?_
        rotate_left
        · intro w'
          go_simp
          try with_reducible rfl
        rotate_left
        · simp only [Act.put, List.setIfInBounds_toArray, List.set_cons_zero, List.set_cons_succ]
          rfl
        refine pure_ (i := 7) (N := some 38) (v := ?_) (a' := ?_) #[true, true, true, true, true, true, true, true, false, false, false, false] rfl rfl (by kernel_rfl) (fun _ _ _ h => h) (Or.inl ⟨by rfl, ?_⟩) ?_ ?_
        rotate_left
        · intro w'
          go_simp
          try with_reducible rfl
        rotate_left
        · simp only [Act.put, List.setIfInBounds_toArray, List.set_cons_zero, List.set_cons_succ]
          rfl
        refine take_ (i := 8) (N := some 39) (v := ?_) (a' := ?_) #[true, true, true, true, true, true, true, true, true, false, false, false] rfl rfl (by kernel_rfl) (fun _ _ _ h => h) (Or.inl ⟨by rfl, ?_⟩) hHeld ?_ ?_
        rotate_left
        · intro w' s0
          obtain ⟨s0_, s1_, s2_, s3_, s4_, s5_, s6_, s7_, s8_⟩ := s0
          go_simp
          try with_reducible rfl
        rotate_left
        · simp only [Act.put, List.setIfInBounds_toArray, List.set_cons_zero, List.set_cons_succ]
          rfl
        refine one_ (i := 9) (N := some 40) #[true, true, true, true, true, true, true, true, true, true, false, false] rfl rfl (by kernel_rfl) (by decide) (fun K hK => ?_)
        refine call_ 36 #[.agg #[.int .i64 x.f0, .int .i64 x.f1.f0, .int .i64 x.f1.f1, .int .i64 x.f1.f2, .int .i64 x.f1.f3, .int .i32 x.f1.f4, .int .i64 x.f2], .bool bb] (by rfl) rfl (by go_simp) ?_
        refine (asm_size.calls _ _ _ _ _ _ _ bb _ _ hsz.out).mono ?_
        rintro e w1 ⟨rfl, hb1⟩
        replace hb1 := Aside0.mk hb1
        refine ⟨_, rfl, ?_⟩
        refine hK.out _ _ ⟨(blk_cell (blk_below hX.out hb1.out) 0).trans rfl, (blk_cell (blk_below hX.out hb1.out) 1).trans rfl, (blk_cell (blk_below hX.out hb1.out) 2).trans rfl, (blk_cell (blk_below hX.out hb1.out) 3).trans rfl, (blk_cell (blk_below hX.out hb1.out) 4).trans rfl, (blk_cell (blk_below hX.out hb1.out) 5).trans rfl, (blk_cell (blk_below hX.out hb1.out) 6).trans rfl, (blk_cell (hY.out.below hb1.out).bp 1).trans rfl, (bs_cell (hY.out.below hb1.out).bl i (by rw [hY.out.lg]; exact hlt)).trans (by rw [hbe.out])⟩ (fun hHeld => ?_)
        clear hK K
        refine norm_ (a' := ?_) ?_ ?_
        rotate_left
        · simp only [Act.put, List.setIfInBounds_toArray, List.set_cons_zero, List.set_cons_succ]
          rfl
        refine pure_ (i := 10) (N := some 41) (v := ?_) (a' := ?_) #[true, true, true, true, true, true, true, true, true, true, true, false] rfl rfl (by kernel_rfl) (fun _ _ _ h => h) (Or.inl ⟨by rfl, ?_⟩) ?_ ?_
        rotate_left
        · intro w'
          go_simp
          try with_reducible rfl
        rotate_left
        · simp only [Act.put, List.setIfInBounds_toArray, List.set_cons_zero, List.set_cons_succ]
          rfl
        refine pure_ (i := 11) (N := some 4) (v := ?_) (a' := ?_) #[true, true, true, true, true, true, true, true, true, true, true, true] rfl rfl (by kernel_rfl) (fun _ _ _ h => h) (Or.inl ⟨by rfl, ?_⟩) ?_ ?_
        rotate_left
        · intro w'
          go_simp
          try with_reducible rfl
        rotate_left
        · simp only [Act.put, List.setIfInBounds_toArray, List.set_cons_zero, List.set_cons_succ]
          rfl
        refine done_ (by kernel_rfl) ?_
        go_wp2_with fail
        go_roundw
        case rel => exact ⟨i + 1, _, _, by omega, by rw [hat.out], by go_num, ⟨hY.out.below hb1.out⟩, ha2, hes⟩
        case measure => simp [intOf]; omega
      · rw [if_neg hx0] at hwh
        replace hes : Aside0 (es' = whM l g es (i + 1)) := ⟨hwh.out.symm⟩
        have y1 := (blk_cell hY.out.bp 1).trans (show _ = some (.slice (some ⟨gl, 0, none⟩) l.length l.length) from rfl)
        have hcl := bs_cell hY.out.bl i (by rw [hY.out.lg]; exact hlt)
        rw [hbe.out] at hcl
        go_upto_region 7 with (fail)
        refine start_ (n := 12) (S := fun w' => w'.cell? ⟨xb, 0, none⟩ = some (.int .i64 x.f0) ∧ w'.cell? ⟨xb, 1, none⟩ = some (.int .i64 x.f1.f0) ∧ w'.cell? ⟨xb, 2, none⟩ = some (.int .i64 x.f1.f1) ∧ w'.cell? ⟨xb, 3, none⟩ = some (.int .i64 x.f1.f2) ∧ w'.cell? ⟨xb, 4, none⟩ = some (.int .i64 x.f1.f3) ∧ w'.cell? ⟨xb, 5, none⟩ = some (.int .i32 x.f1.f4) ∧ w'.cell? ⟨xb, 6, none⟩ = some (.int .i64 x.f2) ∧ w'.cell? ⟨p, 1, none⟩ = some (.slice (some ⟨gl, 0, none⟩) l.length l.length) ∧ w'.cell? ⟨gl, i, none⟩ = some (.bool bb)) (ds := []) #[false, false, false, false, false, false, false, false, false, false, false, false] (by kernel_rfl) rfl rfl (⟨(blk_cell hX.out 0).trans rfl, (blk_cell hX.out 1).trans rfl, (blk_cell hX.out 2).trans rfl, (blk_cell hX.out 3).trans rfl, (blk_cell hX.out 4).trans rfl, (blk_cell hX.out 5).trans rfl, (blk_cell hX.out 6).trans rfl, (blk_cell hY.out.bp 1).trans rfl, (bs_cell hY.out.bl i (by rw [hY.out.lg]; exact hlt)).trans (by rw [hbe.out])⟩) (fun hHeld => ?_)
        replace hX : Aside0 (W5.drew.heap[xb]? = _) := ⟨hX.out⟩
        replace hY := Aside0.mk (hY.out.below (below_drew (Below.refl _ _)))
        clear p0 p1 p2 p3 p4 p5 p6 y1 hcl
        generalize W5.drew = W9 at *
        refine pure_ (i := 0) (N := some 31) (v := ?_) (a' := ?_) #[true, false, false, false, false, false, false, false, false, false, false, false] rfl rfl (by kernel_rfl) (fun _ _ _ h => h) (Or.inl ⟨by rfl, ?_⟩) ?_ ?_
        rotate_left
        · intro w'
          go_simp
          try with_reducible rfl
        rotate_left
        · simp only [Act.put, List.setIfInBounds_toArray, List.set_cons_zero, List.set_cons_succ]
          rfl
        refine take_ (i := 1) (N := some 32) (v := ?_) (a' := ?_) #[true, true, false, false, false, false, false, false, false, false, false, false] rfl rfl (by kernel_rfl) (fun _ _ _ h => h) (Or.inl ⟨by rfl, ?_⟩) hHeld ?_ ?_
        rotate_left
        · intro w' s0
          obtain ⟨s0_, s1_, s2_, s3_, s4_, s5_, s6_, s7_, s8_⟩ := s0
          go_simp
          try with_reducible rfl
        rotate_left
        · simp only [Act.put, List.setIfInBounds_toArray, List.set_cons_zero, List.set_cons_succ]
          rfl
        refine pure_ (i := 2) (N := some 33) (v := ?_) (a' := ?_) #[true, true, true, false, false, false, false, false, false, false, false, false] rfl rfl (by kernel_rfl) (fun _ _ _ h => h) (Or.inl ⟨by rfl, ?_⟩) ?_ ?_
        rotate_left
        · intro w'
          go_simp
          try with_reducible rfl
        rotate_left
        · simp only [Act.put, List.setIfInBounds_toArray, List.set_cons_zero, List.set_cons_succ]
          rfl
        refine pure_ (i := 3) (N := some 34) (v := ?_) (a' := ?_) #[true, true, true, true, false, false, false, false, false, false, false, false] rfl rfl (by kernel_rfl) (fun _ _ _ h => h) (Or.inl ⟨by rfl, ?_⟩) ?_ ?_
        rotate_left
        · intro w'
          go_simp
          try with_reducible rfl
        rotate_left
        · simp only [Act.put, List.setIfInBounds_toArray, List.set_cons_zero, List.set_cons_succ]
          rfl
        refine pure_ (i := 4) (N := some 35) (v := ?_) (a' := ?_) #[true, true, true, true, true, false, false, false, false, false, false, false] rfl rfl (by kernel_rfl) (fun _ _ _ h => h) (Or.inl ⟨by rfl, ?_⟩) ?_ ?_
        rotate_left
        · intro w'
          go_simp
          try with_reducible rfl
        rotate_left
        · simp only [Act.put, List.setIfInBounds_toArray, List.set_cons_zero, List.set_cons_succ]
          rfl
        refine take_ (i := 5) (N := some 36) (v := ?_) (a' := ?_) #[true, true, true, true, true, true, false, false, false, false, false, false] rfl rfl (by kernel_rfl) (fun _ _ _ h => h) (Or.inl ⟨by rfl, ?_⟩) hHeld ?_ ?_
        rotate_left
        · intro w' s0
          obtain ⟨s0_, s1_, s2_, s3_, s4_, s5_, s6_, s7_, s8_⟩ := s0
          go_simp
          try with_reducible rfl
        rotate_left
        · simp only [Act.put, List.setIfInBounds_toArray, List.set_cons_zero, List.set_cons_succ]
          rfl
        refine pure_ (i := 6) (N := some 37) (v := ?_) (a' := ?_) #[true, true, true, true, true, true, true, false, false, false, false, false] rfl rfl (by kernel_rfl) (fun _ _ _ h => h) (Or.inl ⟨by rfl, ?_⟩) ?_ ?_
        rotate_left
        · intro w'
          go_simp
          try with_reducible rfl
        rotate_left
        · simp only [Act.put, List.setIfInBounds_toArray, List.set_cons_zero, List.set_cons_succ]
          rfl
        refine pure_ (i := 7) (N := some 38) (v := ?_) (a' := ?_) #[true, true, true, true, true, true, true, true, false, false, false, false] rfl rfl (by kernel_rfl) (fun _ _ _ h => h) (Or.inl ⟨by rfl, ?_⟩) ?_ ?_
        rotate_left
        · intro w'
          go_simp
          try with_reducible rfl
        rotate_left
        · simp only [Act.put, List.setIfInBounds_toArray, List.set_cons_zero, List.set_cons_succ]
          rfl
        refine take_ (i := 8) (N := some 39) (v := ?_) (a' := ?_) #[true, true, true, true, true, true, true, true, true, false, false, false] rfl rfl (by kernel_rfl) (fun _ _ _ h => h) (Or.inl ⟨by rfl, ?_⟩) hHeld ?_ ?_
        rotate_left
        · intro w' s0
          obtain ⟨s0_, s1_, s2_, s3_, s4_, s5_, s6_, s7_, s8_⟩ := s0
          go_simp
          try with_reducible rfl
        rotate_left
        · simp only [Act.put, List.setIfInBounds_toArray, List.set_cons_zero, List.set_cons_succ]
          rfl
        refine one_ (i := 9) (N := some 40) #[true, true, true, true, true, true, true, true, true, true, false, false] rfl rfl (by kernel_rfl) (by decide) (fun K hK => ?_)
        refine call_ 36 #[.agg #[.int .i64 x.f0, .int .i64 x.f1.f0, .int .i64 x.f1.f1, .int .i64 x.f1.f2, .int .i64 x.f1.f3, .int .i32 x.f1.f4, .int .i64 x.f2], .bool bb] (by rfl) rfl (by go_simp) ?_
        refine (asm_size.calls _ _ _ _ _ _ _ bb _ _ hsz.out).mono ?_
        rintro e w1 ⟨rfl, hb1⟩
        replace hb1 := Aside0.mk hb1
        refine ⟨_, rfl, ?_⟩
        refine hK.out _ _ ⟨(blk_cell (blk_below hX.out hb1.out) 0).trans rfl, (blk_cell (blk_below hX.out hb1.out) 1).trans rfl, (blk_cell (blk_below hX.out hb1.out) 2).trans rfl, (blk_cell (blk_below hX.out hb1.out) 3).trans rfl, (blk_cell (blk_below hX.out hb1.out) 4).trans rfl, (blk_cell (blk_below hX.out hb1.out) 5).trans rfl, (blk_cell (blk_below hX.out hb1.out) 6).trans rfl, (blk_cell (hY.out.below hb1.out).bp 1).trans rfl, (bs_cell (hY.out.below hb1.out).bl i (by rw [hY.out.lg]; exact hlt)).trans (by rw [hbe.out])⟩ (fun hHeld => ?_)
        clear hK K
        refine norm_ (a' := ?_) ?_ ?_
        rotate_left
        · simp only [Act.put, List.setIfInBounds_toArray, List.set_cons_zero, List.set_cons_succ]
          rfl
        refine pure_ (i := 10) (N := some 41) (v := ?_) (a' := ?_) #[true, true, true, true, true, true, true, true, true, true, true, false] rfl rfl (by kernel_rfl) (fun _ _ _ h => h) (Or.inl ⟨by rfl, ?_⟩) ?_ ?_
        rotate_left
        · intro w'
          go_simp
          try with_reducible rfl
        rotate_left
        · simp only [Act.put, List.setIfInBounds_toArray, List.set_cons_zero, List.set_cons_succ]
          rfl
        refine pure_ (i := 11) (N := some 4) (v := ?_) (a' := ?_) #[true, true, true, true, true, true, true, true, true, true, true, true] rfl rfl (by kernel_rfl) (fun _ _ _ h => h) (Or.inl ⟨by rfl, ?_⟩) ?_ ?_
        rotate_left
        · intro w'
          go_simp
          try with_reducible rfl
        rotate_left
        · simp only [Act.put, List.setIfInBounds_toArray, List.set_cons_zero, List.set_cons_succ]
          rfl
        refine done_ (by kernel_rfl) ?_
        go_wp2_with fail
        go_roundw
        case rel => exact ⟨i + 1, _, _, by omega, by rw [hat.out], by go_num, ⟨hY.out.below hb1.out⟩, ha2, hes⟩
        case measure => simp [intOf]; omega
    · obtain rfl : i = l.length := by omega
      have y0 := (blk_cell hY.out.bp 0).trans (show _ = some (.slice (some ⟨ga, 0, none⟩) (l.length + 1) (l.length + 1)) from rfl)
      have ap1 := add_plain ga l.length
      have q2 : (l.length : Int) < (l.length : Int) + 1 := by omega
      have hca : wr.cell? ⟨ga, l.length, none⟩ = some (.int .i64 (a'.getD l.length 0)) := is_cell hY.out.ba l.length (by rw [hY.out.la]; omega)
      have hfa : wr.frozen? ⟨ga, l.length, none⟩ = false := blk_frozen hY.out.ba l.length
      have hY2 := Aside0.mk (hY.out.setA l.length (atV l g l.length))
      have hend : Aside0 (a'.set l.length (atV l g l.length) = ats l g) := ⟨ats_of l g _ (by rw [List.length_set]; exact hY.out.la) fun j hj => by
        by_cases e : j = l.length
        · subst e
          rw [List.getD_eq_getElem?_getD, List.getElem?_set_self (by rw [hY.out.la]; omega)]; rfl
        · rw [List.getD_eq_getElem?_getD, List.getElem?_set_ne (fun h => e h.symm), ← List.getD_eq_getElem?_getD]; exact ha.out j (by omega)⟩
      rw [hend.out, hes.out] at hY2
      clear hY
      go_wp2_with fail
      go_end0
      exact ⟨rfl, hY2.out⟩
end Go.Proofs.Ytdhmnjoceeolcaa.Asm
end
section
namespace Go.Proofs.Ytdhmnjoceeolcaa.Asm
open Go.RowKit Go.Proofs.YtdhmnjoceeolcaaW.PrintWords Go.Proofs.YtdhmnjoceeolcaaW.PrintLast Go.Proofs.YtdhmnjoceeolcaaW.PrintMore Go.Proofs.Ytdhmnjoceeolcaa.GF
set_option linter.unusedVariables false
set_option linter.unusedSimpArgs false
/-- Where a label stands, of the first lines. -/
def whO (l : List S37) (g : List Bool) : Nat → Int → Option Int
  | 0, _ => none
  | i + 1, k => if 0 < (l.getD i z37).f0 ∧ (l.getD i z37).f0 = k then some (atV l g i) else whO l g i k
theorem whM_get (l : List S37) (g : List Bool) (es : Mm) (k : Int) : ∀ i, get (whM l g es i) k = (whO l g i k).or (get es k)
  | 0 => rfl
  | i + 1 => by
    have ih := whM_get l g es k i
    unfold whM whO
    by_cases h : 0 < (l.getD i z37).f0
    · rw [if_pos h, get_up]
      by_cases h2 : k = (l.getD i z37).f0
      · rw [if_pos h2, if_pos ⟨h, h2.symm⟩]; rfl
      · rw [if_neg h2, if_neg (fun e => h2 e.2.symm), ih]
    · rw [if_neg h, if_neg (fun e => h e.1), ih]
theorem whO_any (l : List S37) (g g' : List Bool) (k : Int) : ∀ i, (whO l g i k).isSome = (whO l g' i k).isSome
  | 0 => rfl
  | i + 1 => by
    unfold whO
    by_cases h : 0 < (l.getD i z37).f0 ∧ (l.getD i z37).f0 = k
    · rw [if_pos h, if_pos h]; rfl
    · rw [if_neg h, if_neg h]; exact whO_any l g g' k i
def Dom (l : List S37) (es : Mm) : Prop := ∀ g k, whO l g l.length k = none → get es k = none
theorem whM_dom (l : List S37) (g : List Bool) (es : Mm) (h : Dom l es) (k : Int) : get (whM l g es l.length) k = whO l g l.length k := by
  rw [whM_get]
  cases h1 : whO l g l.length k with
  | some x => rfl
  | none => rw [h g k h1]; rfl
theorem dom_of (l : List S37) (g : List Bool) (es : Mm) (h : ∀ k, get es k = whO l g l.length k) : Dom l es := fun g' k hn => by
  rw [h k]
  have := whO_any l g g' k l.length
  rw [hn] at this
  cases h1 : whO l g l.length k with
  | none => rfl
  | some x => rw [h1] at this; cases this
def whV (l : List S37) (g : List Bool) (k : Int) : Int := (whO l g l.length k).getD 0
theorem whO_range (l : List S37) (g : List Bool) (k : Int) : ∀ i, 0 ≤ (whO l g i k).getD 0 ∧ (whO l g i k).getD 0 ≤ 2 * i
  | 0 => ⟨Int.le_refl _, Int.le_refl _⟩
  | i + 1 => by
    have := whO_range l g k i
    have := atV_range l g i
    unfold whO
    split
    · simp only [Option.getD_some]; omega
    · omega
/-- How far a branch goes. -/
def dV (l : List S37) (g : List Bool) (i : Nat) : Int := whV l g (l.getD i z37).f2 - atV l g i - 1
/-- Whether a line grows. -/
def farV (l : List S37) (g : List Bool) (i : Nat) : Bool :=
  !((l.getD i z37).f2 == 0) && !(g.getD i false) && ((l.getD i z37).f1.f0 == 39 || (l.getD i z37).f1.f0 == 40) && (decide (dV l g i < -32768) || decide (32768 ≤ dV l g i))
def gr (l : List S37) (g : List Bool) : Nat → List Bool
  | 0 => g
  | i + 1 => if farV l g i = true then (gr l g i).set i true else gr l g i
def tv (l : List S37) (g : List Bool) : Nat → Bool
  | 0 => false
  | i + 1 => farV l g i || tv l g i
theorem gr_len (l : List S37) (g : List Bool) : ∀ i, (gr l g i).length = g.length
  | 0 => rfl
  | i + 1 => by unfold gr; split; rw [List.length_set, gr_len l g i]; exact gr_len l g i
theorem gr_past (l : List S37) (g : List Bool) (j : Nat) : ∀ i, i ≤ j → (gr l g i).getD j false = g.getD j false
  | 0, _ => rfl
  | i + 1, h => by
    unfold gr
    split
    · rw [List.getD_eq_getElem?_getD, List.getElem?_set_ne (by omega), ← List.getD_eq_getElem?_getD]; exact gr_past l g j i (by omega)
    · exact gr_past l g j i (by omega)
theorem gr_none (l : List S37) (g : List Bool) : ∀ i, tv l g i = false → gr l g i = g
  | 0, _ => rfl
  | i + 1, h => by
    unfold tv at h
    rw [Bool.or_eq_false_iff] at h
    unfold gr
    rw [h.1, if_neg (by decide)]
    exact gr_none l g i h.2
/-- How many are not long. -/
def nl (g : List Bool) : Nat := g.countP fun b => !b
theorem nl_set : ∀ (g : List Bool) (i : Nat), i < g.length → g.getD i false = false → nl (g.set i true) + 1 = nl g
  | [], i, h, _ => by simp at h
  | b :: g, 0, _, h => by
    have : b = false := h
    subst this
    simp [nl]
  | b :: g, i + 1, h, h2 => by
    have := nl_set g i (by simpa using h) (by simpa using h2)
    simp only [nl, List.set_cons_succ, List.countP_cons] at this ⊢
    omega
theorem gr_nl (l : List S37) (g : List Bool) (hg : g.length = l.length) : ∀ i, i ≤ l.length → nl (gr l g i) ≤ nl g ∧ (tv l g i = true → nl (gr l g i) < nl g)
  | 0, _ => ⟨Nat.le_refl _, fun h => by cases h⟩
  | i + 1, h => by
    have ih := gr_nl l g hg i (by omega)
    unfold gr tv
    cases hf : farV l g i
    · rw [if_neg (by decide)]
      simpa using ih
    · rw [if_pos rfl]
      have hgi : g.getD i false = false := by
        unfold farV at hf
        simp only [Bool.and_eq_true, Bool.not_eq_true'] at hf
        exact hf.1.1.2
      have := nl_set (gr l g i) i (by rw [gr_len]; omega) (by rw [gr_past l g i i (Nat.le_refl _)]; exact hgi)
      exact ⟨by omega, fun _ => by omega⟩
def lay (l : List S37) : Nat → List Bool → List Bool
  | 0, g => g
  | k + 1, g => if tv l g l.length = true then lay l k (gr l g l.length) else g
def settle (l : List S37) : List Bool := lay l (l.length + 1) (List.replicate l.length false)
theorem nl_le (g : List Bool) : nl g ≤ g.length := List.countP_le_length
theorem lay_len (l : List S37) : ∀ k g, (lay l k g).length = g.length
  | 0, g => rfl
  | k + 1, g => by unfold lay; split; rw [lay_len l k, gr_len]; rfl
theorem made_rep (z : Value) (n : Nat) : madeCells #[z] n = (List.replicate n z).toArray := by
  apply Array.ext
  · simp [size_madeCells]
  · intro i h1 h2
    simp [madeCells]
    rw [show i % 1 = 0 by omega]
    rfl
theorem is_rep (n : Nat) (x : Int) : is (List.replicate n x) = (List.replicate n (.int .i64 x)).toArray := by simp [is]
theorem bs_rep (n : Nat) (x : Bool) : bs (List.replicate n x) = (List.replicate n (.bool x)).toArray := by simp [bs]
def zA (n : Nat) : List Int := List.replicate (n + 1) 0
def fA (n : Nat) : List Bool := List.replicate n false
theorem mk47 (n : Nat) (h : n ≤ 262144) (W : World) : (Instr.makeSlice 47 (.int .i64 ((n : Int) + 1)) (.int .i64 ((n : Int) + 1))).run Try.prog W = .ok (.slice (some ⟨W.heap.size, 0, none⟩) (n + 1) (n + 1)) (W.alloc (.cells (is (zA n)) 3)) := by
  have := print_make_int (P := Try.prog) 47 3 (.int .i64 0) 8 Try.underlying47 info3 rfl (by decide) ((n : Int) + 1) (by omega) (by omega) W
  rwa [show ((n : Int) + 1).toNat = n + 1 by omega, made_rep, ← is_rep] at this
theorem mk48 (n : Nat) (h : n ≤ 262144) (W : World) : (Instr.makeSlice 48 (.int .i64 (n : Int)) (.int .i64 (n : Int))).run Try.prog W = .ok (.slice (some ⟨W.heap.size, 0, none⟩) n n) (W.alloc (.cells (bs (fA n)) 4)) := by
  have := print_make_int (P := Try.prog) 48 4 (.bool false) 1 Try.underlying48 info4 rfl (by decide) (n : Int) (by omega) (by omega) W
  rwa [Int.toNat_natCast, made_rep, ← bs_rep] at this
theorem four {W : World} (o0 o1 o2 o3 : Obj) : ((((W.alloc o0).alloc o1).alloc o2).alloc o3).heap[W.heap.size]? = some o0 ∧ ((((W.alloc o0).alloc o1).alloc o2).alloc o3).heap[W.heap.size + 1]? = some o1 ∧ ((((W.alloc o0).alloc o1).alloc o2).alloc o3).heap[W.heap.size + 2]? = some o2 ∧ ((((W.alloc o0).alloc o1).alloc o2).alloc o3).heap[W.heap.size + 3]? = some o3 := by
  have h0 := blk_new W o0
  have h1 := blk_new (W.alloc o0) o1
  have h2 := blk_new ((W.alloc o0).alloc o1) o2
  have h3 := blk_new (((W.alloc o0).alloc o1).alloc o2) o3
  rw [show (W.alloc o0).heap.size = W.heap.size + 1 by simp] at h1
  rw [show ((W.alloc o0).alloc o1).heap.size = W.heap.size + 2 by simp] at h2
  rw [show (((W.alloc o0).alloc o1).alloc o2).heap.size = W.heap.size + 3 by simp] at h3
  exact ⟨blk_alloc (blk_alloc (blk_alloc h0 _) _) _, blk_alloc (blk_alloc h1 _) _, blk_alloc h2 _, h3⟩
theorem Ly.begin {w W : World} (h : Below w.heap.size w W) {n p ga gl m : Nat} {o0 o1 o2 o3 : Obj} (hp : w.heap.size ≤ p) (ha : w.heap.size ≤ ga) (hl : w.heap.size ≤ gl) (hm : w.heap.size ≤ m)
    (bp : ((((W.alloc o0).alloc o1).alloc o2).alloc o3).heap[p]? = some (.cells #[.slice (some ⟨ga, 0, none⟩) (n + 1) (n + 1), .slice (some ⟨gl, 0, none⟩) n n, .map (some m)] 50 (0, 0)))
    (ba : ((((W.alloc o0).alloc o1).alloc o2).alloc o3).heap[ga]? = some (.cells (is (zA n)) 3 (0, 0))) (bl : ((((W.alloc o0).alloc o1).alloc o2).alloc o3).heap[gl]? = some (.cells (bs (fA n)) 4 (0, 0)))
    (bm : ((((W.alloc o0).alloc o1).alloc o2).alloc o3).heap[m]? = some (.map #[] 0)) : Ly w ((((W.alloc o0).alloc o1).alloc o2).alloc o3) n p ga gl m (zA n) (fA n) [] :=
  ⟨bp, ba, bl, ⟨_, _, bm, rfl⟩, hp, ha, hl, hm, by simp [zA], by simp [fA], below_alloc (below_alloc (below_alloc (below_alloc h _) _) _) _⟩
/-- What laid leaves. -/
def RetL (w w1 : World) (l : List S37) (e : Ending) (w' : World) : Prop :=
  ∃ p ga gl m es, e = .returned (PP p) ∧ Aside0 (Ly w w' l.length p ga gl m (ats l (settle l)) (settle l) es) ∧ Aside0 (∀ k, get es k = whO l (settle l) l.length k) ∧ Aside0 (Below w1.heap.size w1 w')
set_option maxHeartbeats 32000000 in
set_option maxRecDepth 100000 in
theorem laid_calls {w : World} {A : Option Addr} {l : List S37} {c : Nat} (hL : Aside0 (Kd.C k37 w A l.length l)) (hlen : l.length ≤ 262144) :
    Calls Try.prog 17 #[.slice A l.length c] w (RetL w w l) := by
  have hmk47 := mk47 l.length hlen
  have hmk48 := mk48 l.length hlen
  have hmm := @run_makeMap Try.prog
  have hwr0 : IntKind.i64.wrap ((l.length : Int) + 1) = (l.length : Int) + 1 := IntWalk.i64_in _ (by omega)
  go_enter Try.func17, Try.ntmps17
  go_upto_region 1 with (fail)
  go_cut [3] (fun u3 wx => ∃ p ga gl m : Nat, u3 = PP p ∧ Aside0 (Ly w wx l.length p ga gl m (zA l.length) (fA l.length) []))
  case first =>
    refine start_ (n := 11) (S := fun w' => True) (ds := []) #[false, false, false, false, false, false, false, false, false, false, false] (by kernel_rfl) rfl rfl (trivial) (fun hHeld => ?_)
    have hb0 : Aside0 (Below w.heap.size w w.drew) := ⟨below_drew (Below.refl _ _)⟩
    generalize w.drew = w2 at *
    refine pure_ (i := 0) (N := some 8) (v := ?_) (a' := ?_) #[true, false, false, false, false, false, false, false, false, false, false] rfl rfl (by kernel_rfl) (fun _ _ _ h => h) (Or.inl ⟨by rfl, ?_⟩) ?_ ?_
    rotate_left
    · intro w'
      go_simp
      try with_reducible rfl
    rotate_left
    · simp only [Act.put, List.setIfInBounds_toArray, List.set_cons_zero, List.set_cons_succ]
      rfl
    refine pure_ (i := 1) (N := some 9) (v := ?_) (a' := ?_) #[true, true, false, false, false, false, false, false, false, false, false] rfl rfl (by kernel_rfl) (fun _ _ _ h => h) (Or.inl ⟨by rfl, ?_⟩) ?_ ?_
    rotate_left
    · intro w'
      go_simp
      try with_reducible rfl
    rotate_left
    · simp only [Act.put, List.setIfInBounds_toArray, List.set_cons_zero, List.set_cons_succ]
      rfl
    refine pure_ (i := 2) (N := some 10) (v := ?_) (a' := ?_) #[true, true, true, false, false, false, false, false, false, false, false] rfl rfl (by kernel_rfl) (fun _ _ _ h => h) (Or.inl ⟨by rfl, ?_⟩) ?_ ?_
    rotate_left
    · intro w'
      go_simp
      try with_reducible rfl
    rotate_left
    · simp only [Act.put, List.setIfInBounds_toArray, List.set_cons_zero, List.set_cons_succ]
      rfl
    refine pure_ (i := 4) (N := some 12) (v := ?_) (a' := ?_) #[true, true, true, false, true, false, false, false, false, false, false] rfl rfl (by kernel_rfl) (fun _ _ _ h => h) (Or.inl ⟨by rfl, ?_⟩) ?_ ?_
    rotate_left
    · intro w'
      go_simp
      try with_reducible rfl
    rotate_left
    · simp only [Act.put, List.setIfInBounds_toArray, List.set_cons_zero, List.set_cons_succ]
      rfl
    refine pure_ (i := 5) (N := some 13) (v := ?_) (a' := ?_) #[true, true, true, false, true, true, false, false, false, false, false] rfl rfl (by kernel_rfl) (fun _ _ _ h => h) (Or.inl ⟨by rfl, ?_⟩) ?_ ?_
    rotate_left
    · intro w'
      go_simp
      try with_reducible rfl
    rotate_left
    · simp only [Act.put, List.setIfInBounds_toArray, List.set_cons_zero, List.set_cons_succ]
      rfl
    refine three_ (i := 3) (j := 6) (k := 7) (Ni := some 11) (Nj := some 14) (Nk := some 15) #[true, true, true, true, true, true, false, false, false, false, false] #[true, true, true, false, true, true, true, false, false, false, false] #[true, true, true, false, true, true, false, true, false, false, false] rfl rfl rfl rfl rfl rfl (by kernel_rfl) (by decide) (by decide) (by decide) (fun K hK => ?_) (fun K hK => ?_) (fun K hK => ?_)
    · refine value_ (w1 := (w2).alloc (.cells (is (zA l.length)) 3)) (v := .slice (some ⟨w2.heap.size, 0, none⟩) (l.length + 1) (l.length + 1)) (by rfl) rfl (by go_simp) ?_
      refine hK.out _ _ trivial (fun hHeld => ?_)
      clear hK K
      refine norm_ (a' := ?_) ?_ ?_
      rotate_left
      · simp only [Act.put, List.setIfInBounds_toArray, List.set_cons_zero, List.set_cons_succ]
        rfl
      refine two_ (i := 6) (j := 7) (Ni := some 14) (Nj := some 15) #[true, true, true, true, true, true, true, false, false, false, false] #[true, true, true, true, true, true, false, true, false, false, false] rfl rfl rfl rfl (by kernel_rfl) (by decide) (by decide) (fun K hK => ?_) (fun K hK => ?_)
      · refine value_ (w1 := ((w2).alloc (.cells (is (zA l.length)) 3)).alloc (.cells (bs (fA l.length)) 4)) (v := .slice (some ⟨w2.heap.size + 1, 0, none⟩) l.length l.length) (by rfl) rfl (by go_simp) ?_
        refine hK.out _ _ trivial (fun hHeld => ?_)
        clear hK K
        refine norm_ (a' := ?_) ?_ ?_
        rotate_left
        · simp only [Act.put, List.setIfInBounds_toArray, List.set_cons_zero, List.set_cons_succ]
          rfl
        refine one_ (i := 7) (N := some 15) #[true, true, true, true, true, true, true, true, false, false, false] rfl rfl (by kernel_rfl) (by decide) (fun K hK => ?_)
        refine value_ (w1 := (((w2).alloc (.cells (is (zA l.length)) 3)).alloc (.cells (bs (fA l.length)) 4)).alloc (.map #[] 0)) (v := .map (some (w2.heap.size + 2))) (by rfl) rfl (by go_simp) ?_
        refine hK.out _ _ trivial (fun hHeld => ?_)
        clear hK K
        refine norm_ (a' := ?_) ?_ ?_
        rotate_left
        · simp only [Act.put, List.setIfInBounds_toArray, List.set_cons_zero, List.set_cons_succ]
          rfl
        refine pure_ (i := 8) (N := some 16) (v := ?_) (a' := ?_) #[true, true, true, true, true, true, true, true, true, false, false] rfl rfl (by kernel_rfl) (fun _ _ _ h => h) (Or.inl ⟨by rfl, ?_⟩) ?_ ?_
        rotate_left
        · intro w'
          go_simp
          try with_reducible rfl
        rotate_left
        · simp only [Act.put, List.setIfInBounds_toArray, List.set_cons_zero, List.set_cons_succ]
          rfl
        refine one_ (i := 9) (N := some 17) #[true, true, true, true, true, true, true, true, true, true, false] rfl rfl (by kernel_rfl) (by decide) (fun K hK => ?_)
        refine value_ (w1 := ((((w2).alloc (.cells (is (zA l.length)) 3)).alloc (.cells (bs (fA l.length)) 4)).alloc (.map #[] 0)).alloc (.cells #[.slice (some ⟨w2.heap.size, 0, none⟩) (l.length + 1) (l.length + 1), .slice (some ⟨w2.heap.size + 1, 0, none⟩) l.length l.length, .map (some (w2.heap.size + 2))] 50)) (v := .pointer (some ⟨w2.heap.size + 3, 0, none⟩)) (by rfl) rfl (by go_simp) ?_
        refine hK.out _ _ trivial (fun hHeld => ?_)
        clear hK K
        refine norm_ (a' := ?_) ?_ ?_
        rotate_left
        · simp only [Act.put, List.setIfInBounds_toArray, List.set_cons_zero, List.set_cons_succ]
          rfl
        refine pure_ (i := 10) (N := some 3) (v := ?_) (a' := ?_) #[true, true, true, true, true, true, true, true, true, true, true] rfl rfl (by kernel_rfl) (fun _ _ _ h => h) (Or.inl ⟨by rfl, ?_⟩) ?_ ?_
        rotate_left
        · intro w'
          go_simp
          try with_reducible rfl
        rotate_left
        · simp only [Act.put, List.setIfInBounds_toArray, List.set_cons_zero, List.set_cons_succ]
          rfl
        refine done_ (by kernel_rfl) ?_
        go_wp2_with fail
        go_meet
        have hs := hb0.out.size
        exact ⟨w2.heap.size + 3, w2.heap.size, w2.heap.size + 1, w2.heap.size + 2, rfl, ⟨Ly.begin hb0.out (by omega) (by omega) (by omega) (by omega) (four _ _ _ _).2.2.2 (four _ _ _ _).1 (four _ _ _ _).2.1 (four _ _ _ _).2.2.1⟩⟩
      · refine value_ (w1 := ((w2).alloc (.cells (is (zA l.length)) 3)).alloc (.map #[] 0)) (v := .map (some (w2.heap.size + 1))) (by rfl) rfl (by go_simp) ?_
        refine hK.out _ _ trivial (fun hHeld => ?_)
        clear hK K
        refine norm_ (a' := ?_) ?_ ?_
        rotate_left
        · simp only [Act.put, List.setIfInBounds_toArray, List.set_cons_zero, List.set_cons_succ]
          rfl
        refine one_ (i := 6) (N := some 14) #[true, true, true, true, true, true, true, true, false, false, false] rfl rfl (by kernel_rfl) (by decide) (fun K hK => ?_)
        refine value_ (w1 := (((w2).alloc (.cells (is (zA l.length)) 3)).alloc (.map #[] 0)).alloc (.cells (bs (fA l.length)) 4)) (v := .slice (some ⟨w2.heap.size + 2, 0, none⟩) l.length l.length) (by rfl) rfl (by go_simp) ?_
        refine hK.out _ _ trivial (fun hHeld => ?_)
        clear hK K
        refine norm_ (a' := ?_) ?_ ?_
        rotate_left
        · simp only [Act.put, List.setIfInBounds_toArray, List.set_cons_zero, List.set_cons_succ]
          rfl
        refine pure_ (i := 8) (N := some 16) (v := ?_) (a' := ?_) #[true, true, true, true, true, true, true, true, true, false, false] rfl rfl (by kernel_rfl) (fun _ _ _ h => h) (Or.inl ⟨by rfl, ?_⟩) ?_ ?_
        rotate_left
        · intro w'
          go_simp
          try with_reducible rfl
        rotate_left
        · simp only [Act.put, List.setIfInBounds_toArray, List.set_cons_zero, List.set_cons_succ]
          rfl
        refine one_ (i := 9) (N := some 17) #[true, true, true, true, true, true, true, true, true, true, false] rfl rfl (by kernel_rfl) (by decide) (fun K hK => ?_)
        refine value_ (w1 := ((((w2).alloc (.cells (is (zA l.length)) 3)).alloc (.map #[] 0)).alloc (.cells (bs (fA l.length)) 4)).alloc (.cells #[.slice (some ⟨w2.heap.size, 0, none⟩) (l.length + 1) (l.length + 1), .slice (some ⟨w2.heap.size + 2, 0, none⟩) l.length l.length, .map (some (w2.heap.size + 1))] 50)) (v := .pointer (some ⟨w2.heap.size + 3, 0, none⟩)) (by rfl) rfl (by go_simp) ?_
        refine hK.out _ _ trivial (fun hHeld => ?_)
        clear hK K
        refine norm_ (a' := ?_) ?_ ?_
        rotate_left
        · simp only [Act.put, List.setIfInBounds_toArray, List.set_cons_zero, List.set_cons_succ]
          rfl
        refine pure_ (i := 10) (N := some 3) (v := ?_) (a' := ?_) #[true, true, true, true, true, true, true, true, true, true, true] rfl rfl (by kernel_rfl) (fun _ _ _ h => h) (Or.inl ⟨by rfl, ?_⟩) ?_ ?_
        rotate_left
        · intro w'
          go_simp
          try with_reducible rfl
        rotate_left
        · simp only [Act.put, List.setIfInBounds_toArray, List.set_cons_zero, List.set_cons_succ]
          rfl
        refine done_ (by kernel_rfl) ?_
        go_wp2_with fail
        go_meet
        have hs := hb0.out.size
        exact ⟨w2.heap.size + 3, w2.heap.size, w2.heap.size + 2, w2.heap.size + 1, rfl, ⟨Ly.begin hb0.out (by omega) (by omega) (by omega) (by omega) (four _ _ _ _).2.2.2 (four _ _ _ _).1 (four _ _ _ _).2.2.1 (four _ _ _ _).2.1⟩⟩
    · refine value_ (w1 := (w2).alloc (.cells (bs (fA l.length)) 4)) (v := .slice (some ⟨w2.heap.size, 0, none⟩) l.length l.length) (by rfl) rfl (by go_simp) ?_
      refine hK.out _ _ trivial (fun hHeld => ?_)
      clear hK K
      refine norm_ (a' := ?_) ?_ ?_
      rotate_left
      · simp only [Act.put, List.setIfInBounds_toArray, List.set_cons_zero, List.set_cons_succ]
        rfl
      refine two_ (i := 3) (j := 7) (Ni := some 11) (Nj := some 15) #[true, true, true, true, true, true, true, false, false, false, false] #[true, true, true, false, true, true, true, true, false, false, false] rfl rfl rfl rfl (by kernel_rfl) (by decide) (by decide) (fun K hK => ?_) (fun K hK => ?_)
      · refine value_ (w1 := ((w2).alloc (.cells (bs (fA l.length)) 4)).alloc (.cells (is (zA l.length)) 3)) (v := .slice (some ⟨w2.heap.size + 1, 0, none⟩) (l.length + 1) (l.length + 1)) (by rfl) rfl (by go_simp) ?_
        refine hK.out _ _ trivial (fun hHeld => ?_)
        clear hK K
        refine norm_ (a' := ?_) ?_ ?_
        rotate_left
        · simp only [Act.put, List.setIfInBounds_toArray, List.set_cons_zero, List.set_cons_succ]
          rfl
        refine one_ (i := 7) (N := some 15) #[true, true, true, true, true, true, true, true, false, false, false] rfl rfl (by kernel_rfl) (by decide) (fun K hK => ?_)
        refine value_ (w1 := (((w2).alloc (.cells (bs (fA l.length)) 4)).alloc (.cells (is (zA l.length)) 3)).alloc (.map #[] 0)) (v := .map (some (w2.heap.size + 2))) (by rfl) rfl (by go_simp) ?_
        refine hK.out _ _ trivial (fun hHeld => ?_)
        clear hK K
        refine norm_ (a' := ?_) ?_ ?_
        rotate_left
        · simp only [Act.put, List.setIfInBounds_toArray, List.set_cons_zero, List.set_cons_succ]
          rfl
        refine pure_ (i := 8) (N := some 16) (v := ?_) (a' := ?_) #[true, true, true, true, true, true, true, true, true, false, false] rfl rfl (by kernel_rfl) (fun _ _ _ h => h) (Or.inl ⟨by rfl, ?_⟩) ?_ ?_
        rotate_left
        · intro w'
          go_simp
          try with_reducible rfl
        rotate_left
        · simp only [Act.put, List.setIfInBounds_toArray, List.set_cons_zero, List.set_cons_succ]
          rfl
        refine one_ (i := 9) (N := some 17) #[true, true, true, true, true, true, true, true, true, true, false] rfl rfl (by kernel_rfl) (by decide) (fun K hK => ?_)
        refine value_ (w1 := ((((w2).alloc (.cells (bs (fA l.length)) 4)).alloc (.cells (is (zA l.length)) 3)).alloc (.map #[] 0)).alloc (.cells #[.slice (some ⟨w2.heap.size + 1, 0, none⟩) (l.length + 1) (l.length + 1), .slice (some ⟨w2.heap.size, 0, none⟩) l.length l.length, .map (some (w2.heap.size + 2))] 50)) (v := .pointer (some ⟨w2.heap.size + 3, 0, none⟩)) (by rfl) rfl (by go_simp) ?_
        refine hK.out _ _ trivial (fun hHeld => ?_)
        clear hK K
        refine norm_ (a' := ?_) ?_ ?_
        rotate_left
        · simp only [Act.put, List.setIfInBounds_toArray, List.set_cons_zero, List.set_cons_succ]
          rfl
        refine pure_ (i := 10) (N := some 3) (v := ?_) (a' := ?_) #[true, true, true, true, true, true, true, true, true, true, true] rfl rfl (by kernel_rfl) (fun _ _ _ h => h) (Or.inl ⟨by rfl, ?_⟩) ?_ ?_
        rotate_left
        · intro w'
          go_simp
          try with_reducible rfl
        rotate_left
        · simp only [Act.put, List.setIfInBounds_toArray, List.set_cons_zero, List.set_cons_succ]
          rfl
        refine done_ (by kernel_rfl) ?_
        go_wp2_with fail
        go_meet
        have hs := hb0.out.size
        exact ⟨w2.heap.size + 3, w2.heap.size + 1, w2.heap.size, w2.heap.size + 2, rfl, ⟨Ly.begin hb0.out (by omega) (by omega) (by omega) (by omega) (four _ _ _ _).2.2.2 (four _ _ _ _).2.1 (four _ _ _ _).1 (four _ _ _ _).2.2.1⟩⟩
      · refine value_ (w1 := ((w2).alloc (.cells (bs (fA l.length)) 4)).alloc (.map #[] 0)) (v := .map (some (w2.heap.size + 1))) (by rfl) rfl (by go_simp) ?_
        refine hK.out _ _ trivial (fun hHeld => ?_)
        clear hK K
        refine norm_ (a' := ?_) ?_ ?_
        rotate_left
        · simp only [Act.put, List.setIfInBounds_toArray, List.set_cons_zero, List.set_cons_succ]
          rfl
        refine one_ (i := 3) (N := some 11) #[true, true, true, true, true, true, true, true, false, false, false] rfl rfl (by kernel_rfl) (by decide) (fun K hK => ?_)
        refine value_ (w1 := (((w2).alloc (.cells (bs (fA l.length)) 4)).alloc (.map #[] 0)).alloc (.cells (is (zA l.length)) 3)) (v := .slice (some ⟨w2.heap.size + 2, 0, none⟩) (l.length + 1) (l.length + 1)) (by rfl) rfl (by go_simp) ?_
        refine hK.out _ _ trivial (fun hHeld => ?_)
        clear hK K
        refine norm_ (a' := ?_) ?_ ?_
        rotate_left
        · simp only [Act.put, List.setIfInBounds_toArray, List.set_cons_zero, List.set_cons_succ]
          rfl
        refine pure_ (i := 8) (N := some 16) (v := ?_) (a' := ?_) #[true, true, true, true, true, true, true, true, true, false, false] rfl rfl (by kernel_rfl) (fun _ _ _ h => h) (Or.inl ⟨by rfl, ?_⟩) ?_ ?_
        rotate_left
        · intro w'
          go_simp
          try with_reducible rfl
        rotate_left
        · simp only [Act.put, List.setIfInBounds_toArray, List.set_cons_zero, List.set_cons_succ]
          rfl
        refine one_ (i := 9) (N := some 17) #[true, true, true, true, true, true, true, true, true, true, false] rfl rfl (by kernel_rfl) (by decide) (fun K hK => ?_)
        refine value_ (w1 := ((((w2).alloc (.cells (bs (fA l.length)) 4)).alloc (.map #[] 0)).alloc (.cells (is (zA l.length)) 3)).alloc (.cells #[.slice (some ⟨w2.heap.size + 2, 0, none⟩) (l.length + 1) (l.length + 1), .slice (some ⟨w2.heap.size, 0, none⟩) l.length l.length, .map (some (w2.heap.size + 1))] 50)) (v := .pointer (some ⟨w2.heap.size + 3, 0, none⟩)) (by rfl) rfl (by go_simp) ?_
        refine hK.out _ _ trivial (fun hHeld => ?_)
        clear hK K
        refine norm_ (a' := ?_) ?_ ?_
        rotate_left
        · simp only [Act.put, List.setIfInBounds_toArray, List.set_cons_zero, List.set_cons_succ]
          rfl
        refine pure_ (i := 10) (N := some 3) (v := ?_) (a' := ?_) #[true, true, true, true, true, true, true, true, true, true, true] rfl rfl (by kernel_rfl) (fun _ _ _ h => h) (Or.inl ⟨by rfl, ?_⟩) ?_ ?_
        rotate_left
        · intro w'
          go_simp
          try with_reducible rfl
        rotate_left
        · simp only [Act.put, List.setIfInBounds_toArray, List.set_cons_zero, List.set_cons_succ]
          rfl
        refine done_ (by kernel_rfl) ?_
        go_wp2_with fail
        go_meet
        have hs := hb0.out.size
        exact ⟨w2.heap.size + 3, w2.heap.size + 2, w2.heap.size, w2.heap.size + 1, rfl, ⟨Ly.begin hb0.out (by omega) (by omega) (by omega) (by omega) (four _ _ _ _).2.2.2 (four _ _ _ _).2.2.1 (four _ _ _ _).1 (four _ _ _ _).2.1⟩⟩
    · refine value_ (w1 := (w2).alloc (.map #[] 0)) (v := .map (some (w2.heap.size))) (by rfl) rfl (by go_simp) ?_
      refine hK.out _ _ trivial (fun hHeld => ?_)
      clear hK K
      refine norm_ (a' := ?_) ?_ ?_
      rotate_left
      · simp only [Act.put, List.setIfInBounds_toArray, List.set_cons_zero, List.set_cons_succ]
        rfl
      refine two_ (i := 3) (j := 6) (Ni := some 11) (Nj := some 14) #[true, true, true, true, true, true, false, true, false, false, false] #[true, true, true, false, true, true, true, true, false, false, false] rfl rfl rfl rfl (by kernel_rfl) (by decide) (by decide) (fun K hK => ?_) (fun K hK => ?_)
      · refine value_ (w1 := ((w2).alloc (.map #[] 0)).alloc (.cells (is (zA l.length)) 3)) (v := .slice (some ⟨w2.heap.size + 1, 0, none⟩) (l.length + 1) (l.length + 1)) (by rfl) rfl (by go_simp) ?_
        refine hK.out _ _ trivial (fun hHeld => ?_)
        clear hK K
        refine norm_ (a' := ?_) ?_ ?_
        rotate_left
        · simp only [Act.put, List.setIfInBounds_toArray, List.set_cons_zero, List.set_cons_succ]
          rfl
        refine one_ (i := 6) (N := some 14) #[true, true, true, true, true, true, true, true, false, false, false] rfl rfl (by kernel_rfl) (by decide) (fun K hK => ?_)
        refine value_ (w1 := (((w2).alloc (.map #[] 0)).alloc (.cells (is (zA l.length)) 3)).alloc (.cells (bs (fA l.length)) 4)) (v := .slice (some ⟨w2.heap.size + 2, 0, none⟩) l.length l.length) (by rfl) rfl (by go_simp) ?_
        refine hK.out _ _ trivial (fun hHeld => ?_)
        clear hK K
        refine norm_ (a' := ?_) ?_ ?_
        rotate_left
        · simp only [Act.put, List.setIfInBounds_toArray, List.set_cons_zero, List.set_cons_succ]
          rfl
        refine pure_ (i := 8) (N := some 16) (v := ?_) (a' := ?_) #[true, true, true, true, true, true, true, true, true, false, false] rfl rfl (by kernel_rfl) (fun _ _ _ h => h) (Or.inl ⟨by rfl, ?_⟩) ?_ ?_
        rotate_left
        · intro w'
          go_simp
          try with_reducible rfl
        rotate_left
        · simp only [Act.put, List.setIfInBounds_toArray, List.set_cons_zero, List.set_cons_succ]
          rfl
        refine one_ (i := 9) (N := some 17) #[true, true, true, true, true, true, true, true, true, true, false] rfl rfl (by kernel_rfl) (by decide) (fun K hK => ?_)
        refine value_ (w1 := ((((w2).alloc (.map #[] 0)).alloc (.cells (is (zA l.length)) 3)).alloc (.cells (bs (fA l.length)) 4)).alloc (.cells #[.slice (some ⟨w2.heap.size + 1, 0, none⟩) (l.length + 1) (l.length + 1), .slice (some ⟨w2.heap.size + 2, 0, none⟩) l.length l.length, .map (some (w2.heap.size))] 50)) (v := .pointer (some ⟨w2.heap.size + 3, 0, none⟩)) (by rfl) rfl (by go_simp) ?_
        refine hK.out _ _ trivial (fun hHeld => ?_)
        clear hK K
        refine norm_ (a' := ?_) ?_ ?_
        rotate_left
        · simp only [Act.put, List.setIfInBounds_toArray, List.set_cons_zero, List.set_cons_succ]
          rfl
        refine pure_ (i := 10) (N := some 3) (v := ?_) (a' := ?_) #[true, true, true, true, true, true, true, true, true, true, true] rfl rfl (by kernel_rfl) (fun _ _ _ h => h) (Or.inl ⟨by rfl, ?_⟩) ?_ ?_
        rotate_left
        · intro w'
          go_simp
          try with_reducible rfl
        rotate_left
        · simp only [Act.put, List.setIfInBounds_toArray, List.set_cons_zero, List.set_cons_succ]
          rfl
        refine done_ (by kernel_rfl) ?_
        go_wp2_with fail
        go_meet
        have hs := hb0.out.size
        exact ⟨w2.heap.size + 3, w2.heap.size + 1, w2.heap.size + 2, w2.heap.size, rfl, ⟨Ly.begin hb0.out (by omega) (by omega) (by omega) (by omega) (four _ _ _ _).2.2.2 (four _ _ _ _).2.1 (four _ _ _ _).2.2.1 (four _ _ _ _).1⟩⟩
      · refine value_ (w1 := ((w2).alloc (.map #[] 0)).alloc (.cells (bs (fA l.length)) 4)) (v := .slice (some ⟨w2.heap.size + 1, 0, none⟩) l.length l.length) (by rfl) rfl (by go_simp) ?_
        refine hK.out _ _ trivial (fun hHeld => ?_)
        clear hK K
        refine norm_ (a' := ?_) ?_ ?_
        rotate_left
        · simp only [Act.put, List.setIfInBounds_toArray, List.set_cons_zero, List.set_cons_succ]
          rfl
        refine one_ (i := 3) (N := some 11) #[true, true, true, true, true, true, true, true, false, false, false] rfl rfl (by kernel_rfl) (by decide) (fun K hK => ?_)
        refine value_ (w1 := (((w2).alloc (.map #[] 0)).alloc (.cells (bs (fA l.length)) 4)).alloc (.cells (is (zA l.length)) 3)) (v := .slice (some ⟨w2.heap.size + 2, 0, none⟩) (l.length + 1) (l.length + 1)) (by rfl) rfl (by go_simp) ?_
        refine hK.out _ _ trivial (fun hHeld => ?_)
        clear hK K
        refine norm_ (a' := ?_) ?_ ?_
        rotate_left
        · simp only [Act.put, List.setIfInBounds_toArray, List.set_cons_zero, List.set_cons_succ]
          rfl
        refine pure_ (i := 8) (N := some 16) (v := ?_) (a' := ?_) #[true, true, true, true, true, true, true, true, true, false, false] rfl rfl (by kernel_rfl) (fun _ _ _ h => h) (Or.inl ⟨by rfl, ?_⟩) ?_ ?_
        rotate_left
        · intro w'
          go_simp
          try with_reducible rfl
        rotate_left
        · simp only [Act.put, List.setIfInBounds_toArray, List.set_cons_zero, List.set_cons_succ]
          rfl
        refine one_ (i := 9) (N := some 17) #[true, true, true, true, true, true, true, true, true, true, false] rfl rfl (by kernel_rfl) (by decide) (fun K hK => ?_)
        refine value_ (w1 := ((((w2).alloc (.map #[] 0)).alloc (.cells (bs (fA l.length)) 4)).alloc (.cells (is (zA l.length)) 3)).alloc (.cells #[.slice (some ⟨w2.heap.size + 2, 0, none⟩) (l.length + 1) (l.length + 1), .slice (some ⟨w2.heap.size + 1, 0, none⟩) l.length l.length, .map (some (w2.heap.size))] 50)) (v := .pointer (some ⟨w2.heap.size + 3, 0, none⟩)) (by rfl) rfl (by go_simp) ?_
        refine hK.out _ _ trivial (fun hHeld => ?_)
        clear hK K
        refine norm_ (a' := ?_) ?_ ?_
        rotate_left
        · simp only [Act.put, List.setIfInBounds_toArray, List.set_cons_zero, List.set_cons_succ]
          rfl
        refine pure_ (i := 10) (N := some 3) (v := ?_) (a' := ?_) #[true, true, true, true, true, true, true, true, true, true, true] rfl rfl (by kernel_rfl) (fun _ _ _ h => h) (Or.inl ⟨by rfl, ?_⟩) ?_ ?_
        rotate_left
        · intro w'
          go_simp
          try with_reducible rfl
        rotate_left
        · simp only [Act.put, List.setIfInBounds_toArray, List.set_cons_zero, List.set_cons_succ]
          rfl
        refine done_ (by kernel_rfl) ?_
        go_wp2_with fail
        go_meet
        have hs := hb0.out.size
        exact ⟨w2.heap.size + 3, w2.heap.size + 2, w2.heap.size + 1, w2.heap.size, rfl, ⟨Ly.begin hb0.out (by omega) (by omega) (by omega) (by omega) (four _ _ _ _).2.2.2 (four _ _ _ _).2.2.1 (four _ _ _ _).2.1 (four _ _ _ _).1⟩⟩
  case rest =>
  obtain ⟨p, ga, gl, m, rfl, hY0⟩ := hcut
  clear hmk47 hmk48 hmm hwr0
  have hs0 : Aside0 (settle l = lay l (l.length + 1) (fA l.length)) := ⟨rfl⟩
  have hn0 : Aside0 (nl (fA l.length) < l.length + 1) := ⟨by have := nl_le (fA l.length); simp only [fA, List.length_replicate] at this ⊢; omega⟩
  have hd0 : Aside0 (Dom l []) := ⟨fun _ _ _ => rfl⟩
  generalize zA l.length = a0 at *
  generalize fA l.length = g0 at *
  go_wp2_with fail
  go_loopg [2] (l.length + 1) (fun kq u2 wr => ∃ (kg : Nat) (g : List Bool) (a : List Int) (es : Mm), kg = kq ∧ u2 = .pointer none ∧ Aside0 (Ly w wr l.length p ga gl m a g es) ∧ Aside0 (settle l = lay l kq g) ∧ Aside0 (nl g < kq) ∧ Aside0 (Dom l es))
  case atStart => exact ⟨_, g0, a0, [], rfl, rfl, hY0, hs0, hn0, hd0⟩
  case round =>
    clear hY0 hs0 hn0 hd0
    obtain ⟨kg, g, a, es, rfl, rfl, hY, hst, hnl, hdom⟩ := hrel
    have hes := Aside0.mk (whM_dom l g es hdom.out)
    have hgl : Aside0 (g.length = l.length) := ⟨hY.out.lg⟩
    go_upto_region 3 with (go_at_call 28; (with_reducible refine (place_calls hL hlen hY).mono ?_); rintro e w1 ⟨rfl, hY1⟩; replace hY1 := Aside0.mk hY1)
    generalize whM l g es l.length = es1 at *
    clear hY hdom
    go_wp2_with fail
    go_loopw [4, 23] (fun u4 u23 wr => ∃ i : Nat, i ≤ l.length ∧ u23 = .int .i64 i ∧ u4 = .bool (tv l g i) ∧ Aside0 (Ly w wr l.length p ga gl m (ats l g) (gr l g i) es1)) (fun _ u _ => l.length - (intOf u).toNat)
    case atStart => exact ⟨0, Nat.zero_le _, rfl, rfl, hY1⟩
    case round =>
      clear hY1
      obtain ⟨i, hi, rfl, rfl, hY⟩ := hrel
      by_cases hlt : i < l.length
      · obtain ⟨ad, ea, c0, c1, c2, c3, c4, c5, c6⟩ := at_T37 (Kd.C_below hL.out hY.out.bel) (i : Int) (by omega) (by omega)
        subst ea
        simp only [Int.toNat_natCast, rd_L] at c0 c1 c2 c3 c4 c5 c6
        have hr := Aside0.mk (atV_range l g i)
        have hw := Aside0.mk (whO_range l g (l.getD i z37).f2 l.length)
        have htv : Aside0 (tv l g (i + 1) = (farV l g i || tv l g i)) := ⟨rfl⟩
        have hgr : Aside0 (gr l g (i + 1) = if farV l g i = true then (gr l g i).set i true else gr l g i) := ⟨rfl⟩
        have hdd : Aside0 (dV l g i = whV l g (l.getD i z37).f2 - atV l g i - 1) := ⟨rfl⟩
        have hgd : Aside0 ((gr l g i).getD i false = g.getD i false) := ⟨gr_past l g i i (Nat.le_refl _)⟩
        have hfv : Aside0 (farV l g i = (!((l.getD i z37).f2 == 0) && !(g.getD i false) && ((l.getD i z37).f1.f0 == 39 || (l.getD i z37).f1.f0 == 40) && (decide (dV l g i < -32768) || decide (32768 ≤ dV l g i)))) := ⟨rfl⟩
        have hlk : Aside0 ((get es1 (l.getD i z37).f2).getD 0 = whV l g (l.getD i z37).f2) := ⟨by rw [hes.out]; rfl⟩
        have hX := Aside0.mk (blk_new wr (lb (l.getD i z37)))
        replace hY := Aside0.mk (hY.out.below (below_alloc (Below.refl wr.heap.size wr) (lb (l.getD i z37))))
        have q0 : (0 : Int) ≤ (i : Int) := by omega
        have q1 : (i : Int) < (l.length : Int) := by omega
        have q2 : (i : Int) < (l.length : Int) + 1 := by omega
        have ap1 := add_plain ga i
        have ap2 := add_plain gl i
        have hwl : Aside0 (0 ≤ whV l g (l.getD i z37).f2 ∧ whV l g (l.getD i z37).f2 ≤ 2 * l.length) := ⟨hw.out⟩
        clear hw
        generalize l.getD i z37 = x at *
        go_upto_region 7 with (fail)
        generalize wr.alloc (lb x) = W at *
        have p1 := (blk_cell hX.out 1).trans (show _ = some (.int .i64 x.f1.f0) from rfl)
        have p6 := (blk_cell hX.out 6).trans (show _ = some (.int .i64 x.f2) from rfl)
        have y0 := (blk_cell hY.out.bp 0).trans (show _ = some (.slice (some ⟨ga, 0, none⟩) (l.length + 1) (l.length + 1)) from rfl)
        have y1 := (blk_cell hY.out.bp 1).trans (show _ = some (.slice (some ⟨gl, 0, none⟩) l.length l.length) from rfl)
        have y2 := (blk_cell hY.out.bp 2).trans (show _ = some (.map (some m)) from rfl)
        have hcl := bs_cell hY.out.bl i (by rw [hY.out.lg]; exact hlt)
        rw [hgd.out] at hcl
        have hfl : W.frozen? ⟨gl, i, none⟩ = false := blk_frozen hY.out.bl i
        have hca := is_cell hY.out.ba i (by rw [hY.out.la]; omega)
        rw [ats_at l g i (by omega)] at hca
        generalize g.getD i false = bi at *
        by_cases k1 : x.f2 = 0
        · have f0 : farV l g i = false := by rw [hfv.out, k1]; rfl
          rw [f0] at htv hgr
          replace f0 := Aside0.mk f0
          go_wp2_with fail
          go_roundw
          case rel => exact ⟨i + 1, by omega, by go_num, by rw [htv.out]; rfl, ⟨by rw [hgr.out]; exact hY.out⟩⟩
          case measure => simp [intOf]; omega
        · have k1' : (x.f2 == 0) = false := beq_eq_false_iff_ne.2 k1
          cases bi
          · by_cases k3 : x.f1.f0 = 39 ∨ x.f1.f0 = 40
            · have k39 : Aside0 ((x.f1.f0 == 39 || x.f1.f0 == 40) = true) := ⟨by simpa using k3⟩
              have hw1 : IntKind.i64.wrap (whV l g x.f2 - atV l g i) = whV l g x.f2 - atV l g i := IntWalk.i64_in _ (by have := hwl.out; have := hr.out; omega)
              have hw2 : IntKind.i64.wrap (whV l g x.f2 - atV l g i - 1) = whV l g x.f2 - atV l g i - 1 := IntWalk.i64_in _ (by have := hwl.out; have := hr.out; omega)
              rw [k39.out, k1'] at hfv
              have hlkm : ∀ k, (Instr.lookup 42 (.map (some m)) (.int .i64 x.f2) false).run Try.prog (W.drewN k) = .ok (.int .i64 (whV l g x.f2)) (W.drewN k) := fun k => by
                have := look (hY.out.mp.keep (w' := W.drewN k) rfl) x.f2
                rwa [hlk.out] at this
              clear hgd
              rcases k3 with k3 | k3
              · have e1 : (x.f1.f0 != 39) = false := by rw [k3]; rfl
                replace k3 := Aside0.mk k3
                go_upto_region 8 with (fail)
                go_quiet (fail)
                rw [← hdd.out]
                clear hw1 hw2 hlkm hca p1 p6 y0 y2
                replace y1 : (W.drewN nq).cell? ⟨p, 1, none⟩ = some (.slice (some ⟨gl, 0, none⟩) l.length l.length) := y1
                replace hcl : (W.drewN nq).cell? ⟨gl, i, none⟩ = some (.bool false) := hcl
                replace hfl : (W.drewN nq).frozen? ⟨gl, i, none⟩ = false := hfl
                replace hY := Aside0.mk (hY.out.below (pw_below_drewN (Below.refl W.heap.size W) nq))
                generalize W.drewN nq = W8 at *
                clear hdd
                generalize dV l g i = d at *
                have hY2 := Aside0.mk (hY.out.setL i true)
                by_cases d1 : d < -32768
                · have f1 : farV l g i = true := by rw [hfv.out]; simp only [Bool.not_false, Bool.true_and, Bool.or_eq_true, decide_eq_true_eq]; omega
                  rw [f1] at htv hgr
                  rw [if_pos rfl] at hgr
                  replace f1 := Aside0.mk f1
                  go_wp2_with fail
                  go_roundw
                  case rel => exact ⟨i + 1, by omega, by go_num, by rw [htv.out]; rfl, ⟨by rw [hgr.out]; exact hY2.out⟩⟩
                  case measure => simp [intOf]; omega
                · have d1' : decide (d < -32768) = false := decide_eq_false d1
                  by_cases d2 : 32768 ≤ d
                  · have f1 : farV l g i = true := by rw [hfv.out]; simp only [Bool.not_false, Bool.true_and, Bool.or_eq_true, decide_eq_true_eq]; omega
                    rw [f1] at htv hgr
                    rw [if_pos rfl] at hgr
                    replace f1 := Aside0.mk f1
                    replace d1 := Aside0.mk d1
                    go_wp2_with fail
                    go_roundw
                    case rel => exact ⟨i + 1, by omega, by go_num, by rw [htv.out]; rfl, ⟨by rw [hgr.out]; exact hY2.out⟩⟩
                    case measure => simp [intOf]; omega
                  · have f1 : farV l g i = false := by rw [hfv.out]; simp only [Bool.not_false, Bool.true_and, Bool.or_eq_false_iff, decide_eq_false_iff_not]; omega
                    have d2' : decide (32768 ≤ d) = false := decide_eq_false d2
                    rw [f1] at htv hgr
                    replace f1 := Aside0.mk f1
                    replace d1 := Aside0.mk d1
                    replace d2 := Aside0.mk d2
                    clear hY2
                    go_wp2_with fail
                    go_roundw
                    case rel => exact ⟨i + 1, by omega, by go_num, by rw [htv.out]; rfl, ⟨by rw [hgr.out]; exact hY.out⟩⟩
                    case measure => simp [intOf]; omega
              · have e1 : (x.f1.f0 != 39) = true := by rw [k3]; rfl
                have e2 : (x.f1.f0 != 40) = false := by rw [k3]; rfl
                replace k3 := Aside0.mk k3
                go_upto_region 8 with (fail)
                go_quiet (fail)
                rw [← hdd.out]
                clear hw1 hw2 hlkm hca p1 p6 y0 y2
                replace y1 : (W.drewN nq).cell? ⟨p, 1, none⟩ = some (.slice (some ⟨gl, 0, none⟩) l.length l.length) := y1
                replace hcl : (W.drewN nq).cell? ⟨gl, i, none⟩ = some (.bool false) := hcl
                replace hfl : (W.drewN nq).frozen? ⟨gl, i, none⟩ = false := hfl
                replace hY := Aside0.mk (hY.out.below (pw_below_drewN (Below.refl W.heap.size W) nq))
                generalize W.drewN nq = W8 at *
                clear hdd
                generalize dV l g i = d at *
                have hY2 := Aside0.mk (hY.out.setL i true)
                by_cases d1 : d < -32768
                · have f1 : farV l g i = true := by rw [hfv.out]; simp only [Bool.not_false, Bool.true_and, Bool.or_eq_true, decide_eq_true_eq]; omega
                  rw [f1] at htv hgr
                  rw [if_pos rfl] at hgr
                  replace f1 := Aside0.mk f1
                  go_wp2_with fail
                  go_roundw
                  case rel => exact ⟨i + 1, by omega, by go_num, by rw [htv.out]; rfl, ⟨by rw [hgr.out]; exact hY2.out⟩⟩
                  case measure => simp [intOf]; omega
                · have d1' : decide (d < -32768) = false := decide_eq_false d1
                  by_cases d2 : 32768 ≤ d
                  · have f1 : farV l g i = true := by rw [hfv.out]; simp only [Bool.not_false, Bool.true_and, Bool.or_eq_true, decide_eq_true_eq]; omega
                    rw [f1] at htv hgr
                    rw [if_pos rfl] at hgr
                    replace f1 := Aside0.mk f1
                    replace d1 := Aside0.mk d1
                    go_wp2_with fail
                    go_roundw
                    case rel => exact ⟨i + 1, by omega, by go_num, by rw [htv.out]; rfl, ⟨by rw [hgr.out]; exact hY2.out⟩⟩
                    case measure => simp [intOf]; omega
                  · have f1 : farV l g i = false := by rw [hfv.out]; simp only [Bool.not_false, Bool.true_and, Bool.or_eq_false_iff, decide_eq_false_iff_not]; omega
                    have d2' : decide (32768 ≤ d) = false := decide_eq_false d2
                    rw [f1] at htv hgr
                    replace f1 := Aside0.mk f1
                    replace d1 := Aside0.mk d1
                    replace d2 := Aside0.mk d2
                    clear hY2
                    go_wp2_with fail
                    go_roundw
                    case rel => exact ⟨i + 1, by omega, by go_num, by rw [htv.out]; rfl, ⟨by rw [hgr.out]; exact hY.out⟩⟩
                    case measure => simp [intOf]; omega
            · have k39 : Aside0 ((x.f1.f0 == 39 || x.f1.f0 == 40) = false) := ⟨by rw [Bool.or_eq_false_iff]; exact ⟨beq_eq_false_iff_ne.2 fun h => k3 (.inl h), beq_eq_false_iff_ne.2 fun h => k3 (.inr h)⟩⟩
              have e1 : (x.f1.f0 != 39) = true := by simpa using fun h => k3 (.inl h)
              have e2 : (x.f1.f0 != 40) = true := by simpa using fun h => k3 (.inr h)
              have f0 : farV l g i = false := by rw [hfv.out, k39.out]; simp
              rw [f0] at htv hgr
              replace f0 := Aside0.mk f0
              replace k3 := Aside0.mk k3
              go_wp2_with fail
              go_roundw
              case rel => exact ⟨i + 1, by omega, by go_num, by rw [htv.out]; rfl, ⟨by rw [hgr.out]; exact hY.out⟩⟩
              case measure => simp [intOf]; omega
          · have f0 : farV l g i = false := by rw [hfv.out]; simp
            rw [f0] at htv hgr
            replace f0 := Aside0.mk f0
            go_wp2_with fail
            go_roundw
            case rel => exact ⟨i + 1, by omega, by go_num, by rw [htv.out]; rfl, ⟨by rw [hgr.out]; exact hY.out⟩⟩
            case measure => simp [intOf]; omega
      · obtain rfl : i = l.length := by omega
        have hk1 : Aside0 (1 ≤ kg) := ⟨by have := hnl.out; omega⟩
        have hgn := Aside0.mk (gr_nl l g hgl.out l.length (Nat.le_refl _))
        have hst2 : Aside0 (lay l kg g = if tv l g l.length = true then lay l (kg - 1) (gr l g l.length) else g) := ⟨by obtain ⟨k, rfl⟩ : ∃ k, kg = k + 1 := ⟨kg - 1, by have := hk1.out; omega⟩; rfl⟩
        cases htv : tv l g l.length
        · have hgg := Aside0.mk (gr_none l g l.length htv)
          have hse : Aside0 (settle l = g) := ⟨by rw [hst.out, hst2.out, htv]; rfl⟩
          rw [hgg.out] at hY
          replace htv := Aside0.mk htv
          go_wp2_with fail
          go_ret
          refine ⟨p, ga, gl, m, es1, rfl, ?_, ?_, ⟨hY.out.bel⟩⟩
          · rw [hse.out]; exact hY
          · rw [hse.out]; exact hes
        · have hsn : Aside0 (settle l = lay l (kg - 1) (gr l g l.length)) := ⟨by rw [hst.out, hst2.out, htv]; rfl⟩
          have hnn : Aside0 (nl (gr l g l.length) < kg - 1) := ⟨by have := hgn.out.2 htv; have := hnl.out; omega⟩
          have hdn := Aside0.mk (dom_of l g es1 hes.out)
          replace htv := Aside0.mk htv
          go_wp2_with fail
          go_roundg (kg - 1)
          case measure => have := hk1.out; omega
          case rel => exact ⟨_, _, _, _, rfl, rfl, hY, hsn, hnn, hdn⟩
end Go.Proofs.Ytdhmnjoceeolcaa.Asm
end
section
namespace Go.Proofs.Ytdhmnjoceeolcaa.Asm
open Go.RowKit Go.Proofs.YtdhmnjoceeolcaaW.PrintWords Go.Proofs.YtdhmnjoceeolcaaW.PrintLast Go.Proofs.YtdhmnjoceeolcaaW.PrintMore Go.Proofs.Ytdhmnjoceeolcaa.GF
set_option linter.unusedVariables false
set_option linter.unusedSimpArgs false
def insL (x : S24) : List Value := [.int .i64 x.f0, .int .i64 x.f1, .int .i64 x.f2, .int .i64 x.f3, .int .i32 x.f4]
def insA (ws : List S24) : Array Value := (ws.flatMap insL).toArray
theorem ins_at (q : Nat) (v : Value) : ∀ (ws : List S24) (j : Nat), j < ws.length → (insL (ws.getD j z24))[q]? = some v → (ws.flatMap insL)[j * 5 + q]? = some v
  | [], j, h, _ => by simp at h
  | x :: ws, 0, _, h => by
    have hq : q < 5 := by have := (List.getElem?_eq_some_iff.1 h).1; simpa [insL] using this
    rw [List.flatMap_cons, List.getElem?_append_left (by simp [insL]; omega), Nat.zero_mul, Nat.zero_add]
    exact h
  | x :: ws, j + 1, h, h2 => by
    rw [List.flatMap_cons, List.getElem?_append_right (by simp [insL]; omega), show (j + 1) * 5 + q - (insL x).length = j * 5 + q by simp [insL]; omega]
    exact ins_at q v ws j (by simpa using h) h2
theorem ins_cell {w : World} {b : Nat} {ws : List S24} (h : w.heap[b]? = some (.cells (insA ws) 24 (0, 0))) (j q : Nat) (hj : j < ws.length) (v : Value) (hv : (insL (ws.getD j z24))[q]? = some v) : w.cell? ⟨b, j * 5 + q, none⟩ = some v := by
  rw [blk_cell h]
  exact (by simpa [insA] using ins_at q v ws j hj hv)
/-- A line's instructions. -/
def wordsV (l : List S37) (g : List Bool) (x : S37) (i : Nat) : List S24 :=
  if x.f2 = 0 then [x.f1] else
  if g.getD i false = false then [⟨x.f1.f0, x.f1.f1, x.f1.f2, x.f1.f3, wrap32 (wrap32 (whV l g x.f2 - atV l g i) - 1)⟩]
  else [⟨wrap64 (79 - x.f1.f0), x.f1.f1, x.f1.f2, x.f1.f3, 1⟩, ⟨41, 0, 0, 0, wrap32 (wrap32 (whV l g x.f2 - atV l g i) - 2)⟩]
def RetW (ws : List S24) (w : World) (e : Ending) (w' : World) : Prop :=
  ∃ b, e = .returned (.slice (some ⟨b, 0, none⟩) ws.length ws.length) ∧ Aside0 (w'.heap[b]? = some (.cells (insA ws) 24 (0, 0))) ∧ Aside0 (Below w.heap.size w w')
abbrev ib (x : S24) : Obj := .cells #[.int .i64 x.f0, .int .i64 x.f1, .int .i64 x.f2, .int .i64 x.f3, .int .i32 x.f4] 24 (0, 0)
set_option maxHeartbeats 16000000 in
set_option maxRecDepth 100000 in
theorem words_calls {w wr : World} {l : List S37} (hlen : l.length ≤ 262144) {p ga gl m : Nat} {g : List Bool} {es : Mm} (hY : Aside0 (Ly w wr l.length p ga gl m (ats l g) g es)) (hes : Aside0 (∀ k, get es k = whO l g l.length k)) (x : S37) (i : Nat) (hi : i < l.length) :
    Calls Try.prog 18 #[PP p, .agg #[.int .i64 x.f0, .int .i64 x.f1.f0, .int .i64 x.f1.f1, .int .i64 x.f1.f2, .int .i64 x.f1.f3, .int .i32 x.f1.f4, .int .i64 x.f2], .int .i64 i] wr (RetW (wordsV l g x i) wr) := by
  have hX : Aside0 (((wr.alloc (lb x)).alloc (ib x.f1)).heap[wr.heap.size]? = some (lb x)) := ⟨blk_alloc (blk_new wr (lb x)) _⟩
  have hZ : Aside0 (((wr.alloc (lb x)).alloc (ib x.f1)).heap[wr.heap.size + 1]? = some (ib x.f1)) := ⟨by have := blk_new (wr.alloc (lb x)) (ib x.f1); simpa using this⟩
  have hB : Aside0 (Below wr.heap.size wr ((wr.alloc (lb x)).alloc (ib x.f1))) := ⟨below_alloc (below_alloc (Below.refl _ _) _) _⟩
  have hr := Aside0.mk (atV_range l g i)
  have hwl : Aside0 (0 ≤ whV l g x.f2 ∧ whV l g x.f2 ≤ 2 * l.length) := ⟨whO_range l g x.f2 l.length⟩
  have hlk : Aside0 ((get es x.f2).getD 0 = whV l g x.f2) := ⟨by rw [hes.out]; rfl⟩
  have q0 : (0 : Int) ≤ (i : Int) := by omega
  have q1 : (i : Int) < (l.length : Int) := by omega
  have q2 : (i : Int) < (l.length : Int) + 1 := by omega
  have ap1 := add_plain ga i
  have ap2 := add_plain gl i
  replace hY := Aside0.mk (hY.out.below hB.out)
  go_enter Try.func18, Try.ntmps18
  go_upto_region 2 with (fail)
  generalize (wr.alloc (lb x)).alloc (ib x.f1) = W at *
  have p6 := (blk_cell hX.out 6).trans (show _ = some (.int .i64 x.f2) from rfl)
  have z0 := (blk_cell hZ.out 0).trans (show _ = some (.int .i64 x.f1.f0) from rfl)
  have z1 := (blk_cell hZ.out 1).trans (show _ = some (.int .i64 x.f1.f1) from rfl)
  have z2 := (blk_cell hZ.out 2).trans (show _ = some (.int .i64 x.f1.f2) from rfl)
  have z3 := (blk_cell hZ.out 3).trans (show _ = some (.int .i64 x.f1.f3) from rfl)
  have z4 := (blk_cell hZ.out 4).trans (show _ = some (.int .i32 x.f1.f4) from rfl)
  by_cases k1 : x.f2 = 0
  · have hws : wordsV l g x i = [x.f1] := by unfold wordsV; rw [if_pos k1]
    have e0 : (x.f2 == 0) = true := by simpa using k1
    replace hws := Aside0.mk hws
    replace k1 := Aside0.mk k1
    have hE := Aside0.mk (blk_new W (ib x.f1))
    go_wp2_with fail
    go_ret
    exact ⟨W.heap.size, by rw [hws.out]; rfl, by rw [hws.out]; exact hE, ⟨below_alloc hB.out _⟩⟩
  · have k1' : (x.f2 == 0) = false := beq_eq_false_iff_ne.2 k1
    have y0 := (blk_cell hY.out.bp 0).trans (show _ = some (.slice (some ⟨ga, 0, none⟩) (l.length + 1) (l.length + 1)) from rfl)
    have y1 := (blk_cell hY.out.bp 1).trans (show _ = some (.slice (some ⟨gl, 0, none⟩) l.length l.length) from rfl)
    have y2 := (blk_cell hY.out.bp 2).trans (show _ = some (.map (some m)) from rfl)
    have hcl := bs_cell hY.out.bl i (by rw [hY.out.lg]; exact hi)
    have hca := is_cell hY.out.ba i (by rw [hY.out.la]; omega)
    rw [ats_at l g i (by omega)] at hca
    have hlkm : ∀ k, (Instr.lookup 42 (.map (some m)) (.int .i64 x.f2) false).run Try.prog (W.drewN k) = .ok (.int .i64 (whV l g x.f2)) (W.drewN k) := fun k => by
      have := look (hY.out.mp.keep (w' := W.drewN k) rfl) x.f2
      rwa [hlk.out] at this
    have hw1 : IntKind.i64.wrap (whV l g x.f2 - atV l g i) = whV l g x.f2 - atV l g i := IntWalk.i64_in _ (by have := hwl.out; have := hr.out; omega)
    have hyes : g.getD i false = false → wordsV l g x i = [⟨x.f1.f0, x.f1.f1, x.f1.f2, x.f1.f3, wrap32 (wrap32 (whV l g x.f2 - atV l g i) - 1)⟩] := fun h => by unfold wordsV; rw [if_neg k1, if_pos h]
    have hno : g.getD i false = true → wordsV l g x i = [⟨wrap64 (79 - x.f1.f0), x.f1.f1, x.f1.f2, x.f1.f3, 1⟩, ⟨41, 0, 0, 0, wrap32 (wrap32 (whV l g x.f2 - atV l g i) - 2)⟩] := fun h => by unfold wordsV; rw [if_neg k1, if_neg (by rw [h]; decide)]
    replace k1 := Aside0.mk k1
    generalize g.getD i false = bi at *
    go_upto_region 4 with (fail)
    go_quiet (fail)
    clear hw1 hlkm hca y0 y2
    obtain ⟨d, hd⟩ : ∃ d, Aside0 (wrap32 (whV l g x.f2 - atV l g i) = d) := ⟨_, ⟨rfl⟩⟩
    rw [hd.out] at hyes hno ⊢
    replace y1 : (W.drewN nq).cell? ⟨p, 1, none⟩ = some (.slice (some ⟨gl, 0, none⟩) l.length l.length) := y1
    replace hcl : (W.drewN nq).cell? ⟨gl, i, none⟩ = some (.bool bi) := hcl
    replace hZ : Aside0 ((W.drewN nq).heap[wr.heap.size + 1]? = _) := ⟨hZ.out⟩
    replace hB : Aside0 (Below wr.heap.size wr (W.drewN nq)) := ⟨pw_below_drewN hB.out nq⟩
    generalize W.drewN nq = W8 at *
    clear hX hY p6 z0 z1 z2 z3 z4
    cases bi
    · have hws := Aside0.mk (hyes rfl)
      clear hyes hno
      have z4 := (blk_cell hZ.out 4).trans (show _ = some (.int .i32 x.f1.f4) from rfl)
      have f4 := blk_frozen hZ.out 4
      have hZ2 := Aside0.mk (blk_put hZ.out 4 (.int .i32 (wrap32 (d - 1))) rfl)
      have hB2 : Aside0 (Below wr.heap.size wr (W8.setCell ⟨wr.heap.size + 1, 4, none⟩ (.int .i32 (wrap32 (d - 1))))) := ⟨below_set hB.out (by omega)⟩
      go_upto_region 7 with (fail)
      generalize hv : wrap32 (d - 1) = v at *
      generalize W8.setCell ⟨wr.heap.size + 1, 4, none⟩ (.int .i32 v) = W9 at *
      clear z4 f4 hcl y1 hZ hB
      have z0 := (blk_cell hZ2.out 0).trans (show _ = some (.int .i64 x.f1.f0) from rfl)
      have z1 := (blk_cell hZ2.out 1).trans (show _ = some (.int .i64 x.f1.f1) from rfl)
      have z2 := (blk_cell hZ2.out 2).trans (show _ = some (.int .i64 x.f1.f2) from rfl)
      have z3 := (blk_cell hZ2.out 3).trans (show _ = some (.int .i64 x.f1.f3) from rfl)
      have z4 := (blk_cell hZ2.out 4).trans (show _ = some (.int .i32 v) from rfl)
      have hE := Aside0.mk (blk_new W9 (ib ⟨x.f1.f0, x.f1.f1, x.f1.f2, x.f1.f3, v⟩))
      replace hv := Aside0.mk hv
      go_wp2_with fail
      go_ret
      exact ⟨W9.heap.size, by rw [hws.out]; rfl, by rw [hws.out]; exact hE, ⟨below_alloc hB2.out _⟩⟩
    · have hws := Aside0.mk (hno rfl)
      clear hyes hno
      have z0 := (blk_cell hZ.out 0).trans (show _ = some (.int .i64 x.f1.f0) from rfl)
      have f0 := blk_frozen hZ.out 0
      have hZ2 := Aside0.mk (blk_put hZ.out 0 (.int .i64 (wrap64 (79 - x.f1.f0))) rfl)
      have hB2 : Aside0 (Below wr.heap.size wr (W8.setCell ⟨wr.heap.size + 1, 0, none⟩ (.int .i64 (wrap64 (79 - x.f1.f0))))) := ⟨below_set hB.out (by omega)⟩
      go_upto_region 9 with (fail)
      generalize hv : wrap64 (79 - x.f1.f0) = v at *
      generalize W8.setCell ⟨wr.heap.size + 1, 0, none⟩ (.int .i64 v) = W9 at *
      clear z0 f0 hcl y1 hZ hB
      have z4 := (blk_cell hZ2.out 4).trans (show _ = some (.int .i32 x.f1.f4) from rfl)
      have f4 := blk_frozen hZ2.out 4
      have hZ3 := Aside0.mk (blk_put hZ2.out 4 (.int .i32 1) rfl)
      have hB3 : Aside0 (Below wr.heap.size wr (W9.setCell ⟨wr.heap.size + 1, 4, none⟩ (.int .i32 1))) := ⟨below_set hB2.out (by omega)⟩
      go_upto_region 10 with (fail)
      generalize W9.setCell ⟨wr.heap.size + 1, 4, none⟩ (.int .i32 1) = Wa at *
      clear z4 f4 hZ2 hB2
      have z0 := (blk_cell hZ3.out 0).trans (show _ = some (.int .i64 v) from rfl)
      have z1 := (blk_cell hZ3.out 1).trans (show _ = some (.int .i64 x.f1.f1) from rfl)
      have z2 := (blk_cell hZ3.out 2).trans (show _ = some (.int .i64 x.f1.f2) from rfl)
      have z3 := (blk_cell hZ3.out 3).trans (show _ = some (.int .i64 x.f1.f3) from rfl)
      have z4 := (blk_cell hZ3.out 4).trans (show _ = some (.int .i32 1) from rfl)
      obtain ⟨v2, hv2⟩ : ∃ v2, Aside0 (wrap32 (d - 2) = v2) := ⟨_, ⟨rfl⟩⟩
      have hE := Aside0.mk (blk_new Wa (.cells #[.int .i64 v, .int .i64 x.f1.f1, .int .i64 x.f1.f2, .int .i64 x.f1.f3, .int .i32 1, .int .i64 41, .int .i64 0, .int .i64 0, .int .i64 0, .int .i32 (wrap32 (d - 2))] 24))
      replace hv := Aside0.mk hv
      go_wp2_with fail
      go_ret
      exact ⟨Wa.heap.size, by rw [hws.out]; rfl, by rw [hws.out]; exact hE, ⟨below_alloc hB3.out _⟩⟩
end Go.Proofs.Ytdhmnjoceeolcaa.Asm
end
section
namespace Go.Proofs.Ytdhmnjoceeolcaa.Asm
open Go.RowKit Go.Proofs.YtdhmnjoceeolcaaW.PrintWords Go.Proofs.YtdhmnjoceeolcaaW.PrintLast Go.Proofs.YtdhmnjoceeolcaaW.PrintMore Go.Proofs.Ytdhmnjoceeolcaa.GF
set_option linter.unusedVariables false
set_option linter.unusedSimpArgs false
/-- An instruction's word. -/
def encV (x : S24) : Int := ((isa_Encode.f 7 x.f0 x.f1 x.f2 x.f3 x.f4).getD (0, 1)).1
def encE (x : S24) : Int := ((isa_Encode.f 7 x.f0 x.f1 x.f2 x.f3 x.f4).getD (0, 1)).2
theorem enc_some (x : S24) : isa_Encode.f 7 x.f0 x.f1 x.f2 x.f3 x.f4 = some (encV x, encE x) := by
  have : ∃ r, isa_Encode.f 7 x.f0 x.f1 x.f2 x.f3 x.f4 = some r := by
    obtain ⟨p, sd, sa, sb, bits, sign, is, lo, hi, h⟩ := FactsDec.cl x.f0
    by_cases hok : FactsDec.ok x.f1 x.f2 x.f3 x.f4 sd sa sb is lo hi = true
    · exact ⟨_, FactsDec.isaEnc 0 _ _ _ _ h hok⟩
    · exact ⟨_, FactsDec.isaEncNo 0 _ _ _ _ h hok⟩
  obtain ⟨r, hr⟩ := this
  unfold encV encE
  rw [hr]; rfl
def byt (w : Int) : List Int := [w % 256, (w / 256) % 256, (w / 65536) % 256, (w / 16777216) % 256]
/-- What the first lines are as_ bytes. -/
def outV (l : List S37) (g : List Bool) : Nat → List Int
  | 0 => []
  | i + 1 => outV l g i ++ (if 0 < (l.getD i z37).f0 then [] else (wordsV l g (l.getD i z37) i).flatMap fun x => byt (encV x))
theorem wordsV_len (l : List S37) (g : List Bool) (x : S37) (i : Nat) : (wordsV l g x i).length ≤ 2 := by unfold wordsV; split; simp; split <;> simp
theorem byt_len (ws : List S24) : (ws.flatMap fun x => byt (encV x)).length = 4 * ws.length := by
  induction ws with
  | nil => rfl
  | cons x ws ih => rw [List.flatMap_cons, List.length_append, ih]; simp [byt]; omega
theorem outV_len (l : List S37) (g : List Bool) : ∀ i, (outV l g i).length ≤ 8 * i
  | 0 => Nat.le_refl _
  | i + 1 => by
    have := outV_len l g i
    unfold outV
    rw [List.length_append]
    split
    · simp; omega
    · rw [byt_len]; have := wordsV_len l g (l.getD i z37) i; omega
/-- Lines as_ code. -/
def asmV (l : List S37) : ByteArray × Int :=
  if checkV l = 0 then (if 1048576 < 4 * atV l (settle l) l.length then (⟨#[]⟩, 3) else (strOfNums (outV l (settle l) l.length), 0)) else (⟨#[]⟩, checkV l)
theorem check_len (l : List S37) (h : checkV l = 0) : l.length ≤ 262144 := by
  unfold checkV at h
  by_cases h2 : 262144 < l.length
  · rw [if_pos h2] at h; exact absurd h (by decide)
  · omega
theorem lit4 (W : World) (b0 b1 b2 b3 : Int) : (Kd.int .u8).C (W.alloc (.cells #[.int .u8 b0, .int .u8 b1, .int .u8 b2, .int .u8 b3] 5)) (some ⟨W.heap.size, 0, none⟩) 4 [b0, b1, b2, b3] := by
  refine Kd.C_of_reads (d := (0 : Int)) ⟨rfl, by omega, fun _ => ⟨⟨W.heap.size, 0, none⟩, rfl, fun j hj => ?_⟩⟩
  rw [add_plain, blk_cell (blk_new W _)]
  match j, hj with
  | 0, _ => rfl
  | 1, _ => rfl
  | 2, _ => rfl
  | 3, _ => rfl
  | j + 4, h => exact absurd h (by simp)
set_option maxHeartbeats 32000000 in
set_option maxRecDepth 100000 in
theorem assemble_calls {w : World} {A : Option Addr} {l : List S37} {c : Nat} (hL : Aside0 (Kd.C k37 w A l.length l)) :
    Calls Try.prog 8 #[.slice A l.length c] w fun e w' => e = .returned (.tuple #[.string (asmV l).1, .int .i64 (asmV l).2]) ∧ Below w.heap.size w w' := by
  by_cases hc : checkV l = 0
  · have hlen := check_len l hc
    have hck : Calls Try.prog 11 #[.slice A l.length c] w fun e w' => e = .returned (.int .i64 0) ∧ Below w.heap.size w w' := (check_calls hL).mono fun e w' h => by rw [hc] at h; exact h
    have hlong : 1048576 < 4 * atV l (settle l) l.length → Aside0 (asmV l = (⟨#[]⟩, 3)) := fun h => ⟨by unfold asmV; rw [if_pos hc, if_pos h]⟩
    have hshort : 4 * atV l (settle l) l.length ≤ 1048576 → Aside0 (asmV l = (strOfNums (outV l (settle l) l.length), 0)) := fun h => ⟨by unfold asmV; rw [if_pos hc, if_neg (by omega)]⟩
    have hr := atV_range l (settle l) l.length
    replace hc := Aside0.mk hc
    go_enter Try.func8, Try.ntmps8
    go_upto_region 5 with (first | (go_at_call 11; (with_reducible refine hck.mono ?_); rintro e w1 ⟨rfl, hb1⟩; replace hb1 := Aside0.mk hb1) | (go_at_call 17; (with_reducible refine (laid_calls ⟨Kd.C_below hL.out hb1.out⟩ hlen).mono ?_); rintro e w5 ⟨p, ga, gl, m, es, rfl, hY, hes, hb5⟩))
    generalize settle l = g at *
    have y0 := (blk_cell hY.out.bp 0).trans (show _ = some (.slice (some ⟨ga, 0, none⟩) (l.length + 1) (l.length + 1)) from rfl)
    have hca := is_cell hY.out.ba l.length (by rw [hY.out.la]; omega)
    rw [ats_at l g l.length (by omega)] at hca
    have ap1 := add_plain ga l.length
    have q0 : (0 : Int) ≤ (l.length : Int) := by omega
    have q1 : (l.length : Int) < (l.length : Int) + 1 := by omega
    have hw4 : IntKind.i64.wrap (4 * atV l g l.length) = 4 * atV l g l.length := IntWalk.i64_in _ (by omega)
    by_cases hlg : 1048576 < 4 * atV l g l.length
    · have hv := hlong hlg
      clear hlong hshort
      have hlg' : decide (1048576 < 4 * atV l g l.length) = true := decide_eq_true hlg
      replace hlg := Aside0.mk hlg
      replace hr := Aside0.mk hr
      go_wp2_with fail
      go_ret2
      exact ⟨by rw [hv.out]; rfl, below_step hb1.out hb5.out⟩
    · have hv := hshort (by omega)
      clear hlong hshort
      have hlg' : decide (1048576 < 4 * atV l g l.length) = false := decide_eq_false hlg
      replace hlg := Aside0.mk hlg
      replace hr := Aside0.mk hr
      go_upto_region 8 with (fail)
      clear hck hw4 hca ap1 hlg' y0 q0 q1
      have hB5 := Aside0.mk (below_step hb1.out hb5.out)
      have hL5 := Aside0.mk (Kd.C_below hL.out hB5.out)
      have hR0 : Aside0 (Kd.R (Kd.int .u8) 5 w5 w5.heap.size (fun _ => True) (.slice none 0 0) []) := ⟨Kd.R_nil _ _ _ _ _⟩
      have hE0 : Aside0 (Below w5.heap.size w5 w5) := ⟨Below.refl _ _⟩
      have hu5 := info5
      clear hb1 hb5
      go_wp2_with fail
      go_loopw [6, 32] (fun u6 u32 wr => ∃ i : Nat, i ≤ l.length ∧ u32 = .int .i64 i ∧ Aside0 (Kd.R (Kd.int .u8) 5 wr w5.heap.size (fun _ => True) u6 (outV l g i)) ∧ Aside0 (Below w5.heap.size w5 wr)) (fun _ u _ => l.length - (intOf u).toNat)
      case atStart => exact ⟨0, Nat.zero_le _, rfl, hR0, hE0⟩
      case round =>
        clear hR0 hE0
        obtain ⟨i, hi, rfl, hR, hb⟩ := hrel
        by_cases hlt : i < l.length
        · obtain ⟨ad, ea, c0, c1, c2, c3, c4, c5, c6⟩ := at_T37 (Kd.C_below hL5.out hb.out) (i : Int) (by omega) (by omega)
          subst ea
          simp only [Int.toNat_natCast, rd_L] at c0 c1 c2 c3 c4 c5 c6
          have hou : Aside0 (outV l g (i + 1) = outV l g i ++ (if 0 < (l.getD i z37).f0 then [] else (wordsV l g (l.getD i z37) i).flatMap fun x => byt (encV x))) := ⟨rfl⟩
          have hol := Aside0.mk (outV_len l g i)
          have hX := Aside0.mk (blk_new wr (lb (l.getD i z37)))
          replace hR := Aside0.mk (Kd.R_alloc hR.out (lb (l.getD i z37)))
          replace hb := Aside0.mk (below_alloc hb.out (lb (l.getD i z37)))
          have q0 : (0 : Int) ≤ (i : Int) := by omega
          have q1 : (i : Int) < (l.length : Int) := by omega
          have hwc := fun (W : World) (h : Below w5.heap.size w5 W) => Aside0.mk (words_calls hlen ⟨hY.out.below h⟩ hes (l.getD i z37) i hlt)
          have hwl := Aside0.mk (wordsV_len l g (l.getD i z37) i)
          generalize l.getD i z37 = x at *
          go_upto_region 11 with (fail)
          generalize wr.alloc (lb x) = W at *
          have p0 := (blk_cell hX.out 0).trans (show _ = some (.int .i64 x.f0) from rfl)
          by_cases hx0 : 0 < x.f0
          · rw [if_pos hx0, List.append_nil] at hou
            have hx' : decide (0 < x.f0) = true := decide_eq_true hx0
            replace hx0 := Aside0.mk hx0
            rw [← hou.out] at hR
            go_wp2_with fail
            go_roundw
            case rel => exact ⟨i + 1, by omega, by go_num, hR, hb⟩
            case measure => simp [intOf]; omega
          · rw [if_neg hx0] at hou
            have hx' : decide (0 < x.f0) = false := decide_eq_false hx0
            replace hx0 := Aside0.mk hx0
            have p1 := (blk_cell hX.out 1).trans (show _ = some (.int .i64 x.f1.f0) from rfl)
            have p2 := (blk_cell hX.out 2).trans (show _ = some (.int .i64 x.f1.f1) from rfl)
            have p3 := (blk_cell hX.out 3).trans (show _ = some (.int .i64 x.f1.f2) from rfl)
            have p4 := (blk_cell hX.out 4).trans (show _ = some (.int .i64 x.f1.f3) from rfl)
            have p5 := (blk_cell hX.out 5).trans (show _ = some (.int .i32 x.f1.f4) from rfl)
            have p6 := (blk_cell hX.out 6).trans (show _ = some (.int .i64 x.f2) from rfl)
            go_upto_region 13 with (go_at_call 18; (with_reducible refine (hwc _ hb.out).out.mono ?_); rintro e w6 ⟨bw, rfl, hbw, hb6⟩)
            replace hR := Aside0.mk (Kd.R_below hR.out hb6.out)
            replace hb := Aside0.mk (below_step hb.out hb6.out)
            clear hX p0 p1 p2 p3 p4 p5 p6 hb6 hwc
            generalize wordsV l g x i = ws at *
            have hRj : Aside0 (Kd.R (Kd.int .u8) 5 w6 w5.heap.size (fun _ => True) u6 (outV l g i ++ (ws.take 0).flatMap fun x => byt (encV x))) := ⟨by rw [List.take_zero, List.flatMap_nil, List.append_nil]; exact hR.out⟩
            generalize outV l g i = ob at *
            go_wp2_with fail
            clear hR
            go_loopw [6, 45] (fun u6 u45 wr => ∃ j : Nat, j ≤ ws.length ∧ u45 = .int .i64 j ∧ Aside0 (Kd.R (Kd.int .u8) 5 wr w5.heap.size (fun _ => True) u6 (ob ++ (ws.take j).flatMap fun x => byt (encV x))) ∧ Aside0 (wr.heap[bw]? = some (.cells (insA ws) 24 (0, 0))) ∧ Aside0 (Below w5.heap.size w5 wr)) (fun _ u _ => ws.length - (intOf u).toNat)
            case atStart => exact ⟨0, Nat.zero_le _, rfl, hRj, hbw, hb⟩
            case round =>
              clear hRj hbw hb
              obtain ⟨j, hj, rfl, hR, hbw, hb⟩ := hrel
              by_cases jlt : j < ws.length
              · have d0 : wr.cell? ⟨bw, j * 5, none⟩ = some (.int .i64 (ws.getD j z24).f0) := ins_cell hbw.out j 0 jlt _ rfl
                have d1 : wr.cell? ⟨bw, j * 5 + 1, none⟩ = some (.int .i64 (ws.getD j z24).f1) := ins_cell hbw.out j 1 jlt _ rfl
                have d2 : wr.cell? ⟨bw, j * 5 + 2, none⟩ = some (.int .i64 (ws.getD j z24).f2) := ins_cell hbw.out j 2 jlt _ rfl
                have d3 : wr.cell? ⟨bw, j * 5 + 3, none⟩ = some (.int .i64 (ws.getD j z24).f3) := ins_cell hbw.out j 3 jlt _ rfl
                have d4 : wr.cell? ⟨bw, j * 5 + 4, none⟩ = some (.int .i32 (ws.getD j z24).f4) := ins_cell hbw.out j 4 jlt _ rfl
                have ap5 := add_plain bw (j * 5)
                have htk := Aside0.mk (take_snoc ws j z24 jlt)
                have hen := Aside0.mk (enc_some (ws.getD j z24))
                have hbl : Aside0 ((ob ++ (ws.take j).flatMap fun x => byt (encV x)).length ≤ 8 * 262144 + 8) := ⟨by rw [List.length_append, byt_len, List.length_take]; have := hol.out; have := hwl.out; omega⟩
                have q4 : (j : Int) < 2 := by have := hwl.out; omega
                have q2 : (0 : Int) ≤ (j : Int) := by omega
                have q3 : (j : Int) < (ws.length : Int) := by omega
                have hZ := Aside0.mk (blk_new wr (ib (ws.getD j z24)))
                replace hR := Aside0.mk (Kd.R_alloc hR.out (ib (ws.getD j z24)))
                replace hb := Aside0.mk (below_alloc hb.out (ib (ws.getD j z24)))
                replace hbw := Aside0.mk (blk_alloc hbw.out (ib (ws.getD j z24)))
                generalize ws.getD j z24 = y at *
                go_upto_region 15 with (fail)
                generalize wr.alloc (ib y) = W2 at *
                clear d0 d1 d2 d3 d4
                have z0 := (blk_cell hZ.out 0).trans (show _ = some (.int .i64 y.f0) from rfl)
                have z1 := (blk_cell hZ.out 1).trans (show _ = some (.int .i64 y.f1) from rfl)
                have z2 := (blk_cell hZ.out 2).trans (show _ = some (.int .i64 y.f2) from rfl)
                have z3 := (blk_cell hZ.out 3).trans (show _ = some (.int .i64 y.f3) from rfl)
                have z4 := (blk_cell hZ.out 4).trans (show _ = some (.int .i32 y.f4) from rfl)
                go_upto_region 16 with (go_at_call 19; (with_reducible refine (isa_Encode.calls 7 _ _ _ _ _ (encV y) (encE y) _ hen.out).mono ?_); rintro e w7 ⟨rfl, hb7⟩; replace hb7 := Aside0.mk hb7)
                clear z0 z1 z2 z3 z4 hZ
                replace hR := Aside0.mk (Kd.R_below hR.out hb7.out)
                replace hb := Aside0.mk (below_step hb.out hb7.out)
                replace hbw := Aside0.mk (blk_below hbw.out hb7.out)
                have hadd : Aside0 ((ws.take (j + 1)).flatMap (fun x => byt (encV x)) = (ws.take j).flatMap (fun x => byt (encV x)) ++ byt (encV y)) := ⟨by rw [htk.out, List.flatMap_append]; simp⟩
                generalize (ws.take j).flatMap (fun x => byt (encV x)) = oj at *
                generalize hoj2 : (ws.take (j + 1)).flatMap (fun x => byt (encV x)) = oj2 at *
                replace hoj2 := Aside0.mk hoj2
                generalize encV y = v at *
                have hlit := Aside0.mk (lit4 w7 (v % 256) (v / 256 % 256) (v / 65536 % 256) (v / 16777216 % 256))
                replace hR := Aside0.mk (Kd.R_alloc hR.out (.cells #[.int .u8 (v % 256), .int .u8 (v / 256 % 256), .int .u8 (v / 65536 % 256), .int .u8 (v / 16777216 % 256)] 5))
                replace hb := Aside0.mk (below_alloc hb.out (.cells #[.int .u8 (v % 256), .int .u8 (v / 256 % 256), .int .u8 (v / 65536 % 256), .int .u8 (v / 16777216 % 256)] 5))
                replace hbw := Aside0.mk (blk_alloc hbw.out (.cells #[.int .u8 (v % 256), .int .u8 (v / 256 % 256), .int .u8 (v / 65536 % 256), .int .u8 (v / 16777216 % 256)] 5))
                go_wp2_with (at_builtin; (refine Kd.R_append_rows (Kd.int .u8) (Rr := (Kd.int .u8).K (w7.alloc (.cells #[.int .u8 (v % 256), .int .u8 (v / 256 % 256), .int .u8 (v / 65536 % 256), .int .u8 (v / 16777216 % 256)] 5))) (w0 := w5) w5.heap.size rfl (.tmp 54) (.tmp 66) 51 5 (.int .u8 0) 1 rfl Try.underlying51 hu5 rfl (by decide) (by omega) u6 (ob ++ oj) (byt v) _ _ _ (fun _ => True) (fun _ => False) rfl rfl ?aO ?aR (fun _ _ h => h) (fun _ h => h.elim) ?aF ?aB ?aS ?aL ?_; (case aO => exact hR.out); (case aR => exact hlit.out); (case aF => exact fun _ _ => trivial); (case aB => exact hb.out); (case aS => exact below_size hb.out); (case aL => have := hbl.out; omega); intro v1 w9 ho hb9 hg hat; have hR2 := Aside0.mk ho; have hB2 := Aside0.mk hb9; have hbw2 := Aside0.mk (blk_grown hbw.out hg (Kd.R_ne hR.out hbw.out (by decide))); clear ho hb9 hg hat))
                rw [List.append_assoc, ← hadd.out] at hR2
                go_roundw
                case rel => exact ⟨j + 1, by omega, by go_num, by rw [hoj2.out]; exact hR2, hbw2, hB2⟩
                case measure => simp [intOf]; omega
              · obtain rfl : j = ws.length := by omega
                rw [List.take_length, ← hou.out] at hR
                go_wp2_with fail
                go_roundw
                case rel => exact ⟨i + 1, by omega, by go_num, hR, hb⟩
                case measure => simp [intOf]; omega
        · obtain rfl : i = l.length := by omega
          obtain ⟨Ab, cb, eb⟩ := Kd.R_slice hR.out
          subst eb
          have hcv := Kd.C_string (P := Try.prog) (src := 51) (dst := 9) Try.underlying51 Try.underlying5 Try.underlying9 ((Kd.R_reads' hR.out).2.2) (c := cb)
          go_wp2_with fail
          go_ret2
          exact ⟨by rw [hv.out]; rfl, below_step hB5.out hb.out⟩
  · have hv : Aside0 (asmV l = (⟨#[]⟩, checkV l)) := ⟨by unfold asmV; rw [if_neg hc]⟩
    have hck := check_calls (c := c) hL
    have hne : (checkV l != 0) = true := by simpa using hc
    generalize hcv : checkV l = cv at *
    replace hc := Aside0.mk hc
    replace hcv := Aside0.mk hcv
    go_enter Try.func8, Try.ntmps8
    go_wp2_with (go_at_call 11; (with_reducible refine hck.mono ?_); rintro e w1 ⟨rfl, hb1⟩; replace hb1 := Aside0.mk hb1)
    go_ret2
    exact ⟨by rw [hv.out]; rfl, hb1.out⟩
end Go.Proofs.Ytdhmnjoceeolcaa.Asm
end
section
namespace Go.Proofs.Ytdhmnjoceeolcaa.Asm
open Go.RowKit Go.Proofs.YtdhmnjoceeolcaaW.PrintWords Go.Proofs.YtdhmnjoceeolcaaW.PrintLast Go.Proofs.YtdhmnjoceeolcaaW.PrintMore Go.Proofs.Ytdhmnjoceeolcaa.GF
set_option linter.unusedVariables false
set_option linter.unusedSimpArgs false
theorem may_label (x : S37) (h : mayV x = true) : 0 ≤ x.f0 ∧ 0 ≤ x.f2 ∧ (0 < x.f0 → x.f2 = 0) := by
  have hs := may_some x
  rw [h] at hs
  unfold asm_may.f at hs
  by_cases c1 : x.f0 = 0
  · rw [if_pos c1] at hs
    by_cases c2 : x.f2 = 0
    · exact ⟨by omega, by omega, fun _ => c2⟩
    · rw [if_neg c2] at hs
      by_cases c3 : x.f2 < 0
      · rw [if_pos c3] at hs; cases hs
      · exact ⟨by omega, by omega, fun h => by omega⟩
  · rw [if_neg c1] at hs
    by_cases c2 : x.f0 > 0
    · rw [if_pos c2] at hs
      by_cases c3 : x.f2 = 0
      · exact ⟨by omega, by omega, fun _ => c3⟩
      · rw [if_neg c3] at hs; cases hs
    · rw [if_neg c2] at hs; cases hs
/-- Where a label stands, if some line has it. -/
theorem whO_at (l : List S37) (g : List Bool) (k : Int) (hk : 0 < k) : ∀ n, n ≤ l.length → (∀ i j, i < n → j < n → (l.getD i z37).f0 = k → (l.getD j z37).f0 = k → i = j) → ∀ i, i < n → (l.getD i z37).f0 = k → whO l g n k = some (atV l g i)
  | 0, _, _, i, h, _ => by omega
  | n + 1, hn, hu, i, h, e => by
    unfold whO
    by_cases hc : (l.getD n z37).f0 = k
    · obtain rfl := hu i n h (by omega) e hc
      rw [if_pos ⟨by rw [hc]; exact hk, hc⟩]
    · rw [if_neg (fun h => hc h.2)]
      have hin : i ≠ n := fun h => by subst h; exact hc e
      exact whO_at l g k hk n (by omega) (fun a b ha hb => hu a b (by omega) (by omega)) i (by omega) e
theorem check_ok (l : List S37) (h : checkV l = 0) : l.length ≤ 262144 ∧ l.all mayV = true ∧ l.any (badV l) = false := by
  unfold checkV at h
  by_cases h1 : 262144 < l.length
  · rw [if_pos h1] at h; exact absurd h (by decide)
  · rw [if_neg h1] at h
    by_cases h2 : l.all mayV = true
    · rw [if_pos h2] at h
      by_cases h3 : l.any (badV l) = true
      · rw [if_pos h3] at h; exact absurd h (by decide)
      · exact ⟨by omega, h2, by simpa using h3⟩
    · rw [if_neg h2] at h; exact absurd h (by decide)
end Go.Proofs.Ytdhmnjoceeolcaa.Asm
end
section
namespace Go.Proofs.Ytdhmnjoceeolcaa.Asm
open Go.RowKit Go.Proofs.YtdhmnjoceeolcaaW.PrintWords Go.Proofs.YtdhmnjoceeolcaaW.PrintLast Go.Proofs.YtdhmnjoceeolcaaW.PrintMore Go.Proofs.Ytdhmnjoceeolcaa.GF
set_option linter.unusedVariables false
set_option linter.unusedSimpArgs false
/-- The reference's layout in memory. -/
structure Sy (w wr : World) (n b bt bl ba : Nat) (tq : List Int) (g : List Bool) (a : List Int) : Prop where
  bb : wr.heap[b]? = some (.cells #[.slice (some ⟨bt, 0, none⟩) n n, .slice (some ⟨bl, 0, none⟩) n n, .slice (some ⟨ba, 0, none⟩) (n + 1) (n + 1)] 59 (0, 0))
  br : wr.heap[w.heap.size]? = some (.cells #[.slice none 0 0, .slice none 0 0, .slice none 0 0] 59 (0, 0))
  tt : wr.heap[bt]? = some (.cells (is tq) 3 (0, 0))
  ll : wr.heap[bl]? = some (.cells (bs g) 4 (0, 0))
  aa : wr.heap[ba]? = some (.cells (is a) 3 (0, 0))
  hb : w.heap.size < b
  ht : w.heap.size < bt
  hl : w.heap.size < bl
  ha : w.heap.size < ba
  lt : tq.length = n
  lg : g.length = n
  la : a.length = n + 1
  bel : Below w.heap.size w wr
section
variable {w wr w1 : World} {n b bt bl ba : Nat} {tq : List Int} {g : List Bool} {a : List Int}
theorem Sy.ne (h : Sy w wr n b bt bl ba tq g a) : bt ≠ ba := fun e => by
  have h1 := h.tt
  rw [e, h.aa] at h1
  have h2 := Option.some.inj h1
  injection h2 with h3 h4
  have h5 : (is a).size = (is tq).size := by rw [h3]
  simp only [is, List.size_toArray, List.length_map, h.la, h.lt] at h5
  omega
theorem Sy.below (h : Sy w wr n b bt bl ba tq g a) (k : Below wr.heap.size wr w1) : Sy w w1 n b bt bl ba tq g a :=
  { h with bb := blk_below h.bb k, br := blk_below h.br k, tt := blk_below h.tt k, ll := blk_below h.ll k, aa := blk_below h.aa k, bel := below_step h.bel k }
theorem Sy.setA (h : Sy w wr n b bt bl ba tq g a) (i : Nat) (x : Int) : Sy w (wr.setCell ⟨ba, i, none⟩ (.int .i64 x)) n b bt bl ba tq g (a.set i x) :=
  { h with bb := blk_far h.bb (blk_ne h.bb h.aa (by decide)) _, br := blk_far h.br (by have := h.ha; show w.heap.size ≠ ba; omega) _, tt := blk_far h.tt h.ne _, ll := blk_far h.ll (blk_ne h.ll h.aa (by decide)) _, aa := is_set h.aa i x, la := by rw [List.length_set]; exact h.la, bel := below_set h.bel (Nat.le_of_lt h.ha) }
theorem Sy.setL (h : Sy w wr n b bt bl ba tq g a) (i : Nat) (x : Bool) : Sy w (wr.setCell ⟨bl, i, none⟩ (.bool x)) n b bt bl ba tq (g.set i x) a :=
  { h with bb := blk_far h.bb (blk_ne h.bb h.ll (by decide)) _, br := blk_far h.br (by have := h.hl; show w.heap.size ≠ bl; omega) _, tt := blk_far h.tt (blk_ne h.tt h.ll (by decide)) _, ll := bs_set h.ll i x, aa := blk_far h.aa (blk_ne h.aa h.ll (by decide)) _, lg := by rw [List.length_set]; exact h.lg, bel := below_set h.bel (Nat.le_of_lt h.hl) }
end
/-- Each label stands in one line only; a line that goes somewhere goes where a label stands. -/
structure Okl (l : List S37) : Prop where
  len : l.length ≤ 262144
  may : ∀ i, i < l.length → mayV (l.getD i z37) = true
  one : ∀ i j, i < l.length → j < l.length → 0 < (l.getD i z37).f0 → (l.getD j z37).f0 = (l.getD i z37).f0 → i = j
  goes : ∀ i, i < l.length → 0 < (l.getD i z37).f2 → ∃ j, j < l.length ∧ (l.getD j z37).f0 = (l.getD i z37).f2
theorem okl (l : List S37) (h : checkV l = 0) : Okl l := by
  obtain ⟨h1, h2, h3⟩ := check_ok l h
  rw [List.any_eq_false] at h3
  refine ⟨h1, fun i hi => List.all_eq_true.1 h2 _ (getD_mem l z37 i hi), fun i j hi hj hp he => ?_, fun i hi hp => ?_⟩
  · have hb := h3 _ (getD_mem l z37 i hi)
    unfold badV at hb
    rw [decide_eq_true hp, Bool.true_and] at hb
    have hc : ¬ 1 < (cnt l (l.getD i z37).f0 : Int) := fun h => hb (by rw [decide_eq_true h]; rfl)
    by_cases hij : i = j
    · exact hij
    · have h2 : 1 < cnt l (l.getD i z37).f0 := (cnt_two _ l).2 (by
        by_cases hlt : i < j
        · exact ⟨i, j, hlt, hj, rfl, he⟩
        · exact ⟨j, i, by omega, hi, he, rfl⟩)
      exact absurd (by omega) hc
  · have hb := h3 _ (getD_mem l z37 i hi)
    unfold badV at hb
    rw [decide_eq_true hp, Bool.true_and] at hb
    have hc : ¬ (cnt l (l.getD i z37).f2 : Int) = 0 := fun h => hb (by rw [decide_eq_true h]; simp)
    exact (cnt_pos l _).1 (by omega)
/-- Where a label stands. -/
theorem wh_at {l : List S37} (H : Okl l) (g : List Bool) (k : Int) (hk : 0 < k) (j : Nat) (hj : j < l.length) (e : (l.getD j z37).f0 = k) : whO l g l.length k = some (atV l g j) :=
  whO_at l g k hk l.length (Nat.le_refl _) (fun a b ha hb e1 e2 => H.one a b ha hb (by rw [e1]; exact hk) (by rw [e2, e1])) j hj e
theorem settle_len (l : List S37) : (settle l).length = l.length := by unfold settle; rw [lay_len]; simp
/-- Labels are never long. -/
def Gd (l : List S37) (g : List Bool) : Prop := ∀ i, i < l.length → 0 < (l.getD i z37).f0 → g.getD i false = false
theorem Gd.gr {l : List S37} (H : Okl l) {g : List Bool} (h : Gd l g) : ∀ k, k ≤ l.length → Gd l (gr l g k)
  | 0, _ => h
  | k + 1, hk => by
    have ih := Gd.gr H h k (by omega)
    intro i hi hp
    unfold Asm.gr
    split
    · next hf =>
      by_cases e : k = i
      · subst e
        have h2 := (may_label _ (H.may k hi)).2.2 hp
        unfold farV at hf
        rw [h2] at hf
        simp at hf
      · rw [List.getD_eq_getElem?_getD, List.getElem?_set_ne e, ← List.getD_eq_getElem?_getD]; exact ih i hi hp
    · exact ih i hi hp
/-- A made row. -/
def Ma (w w' : World) (z : Value) (n : Nat) (cs : Array Value) (e : Nat) : Prop := ∃ g, z = .slice (some ⟨g, 0, none⟩) n n ∧ w.heap.size < g ∧ w'.heap[g]? = some (.cells cs e (0, 0))
theorem Ma.alloc {w w' : World} {z : Value} {n e : Nat} {cs : Array Value} (h : Ma w w' z n cs e) (o : Obj) : Ma w (w'.alloc o) z n cs e := by
  obtain ⟨g, h1, h2, h3⟩ := h
  exact ⟨g, h1, h2, blk_alloc h3 o⟩
theorem Ma.new {w w' : World} (h : w.heap.size < w'.heap.size) (n e : Nat) (cs : Array Value) : Ma w (w'.alloc (.cells cs e)) (.slice (some ⟨w'.heap.size, 0, none⟩) n n) n cs e := ⟨_, rfl, h, blk_new w' _⟩
def Bx (w w' : World) (z : Value) (cs : Array Value) : Prop := ∃ g, z = PP g ∧ w.heap.size < g ∧ w'.heap[g]? = some (.cells cs 59 (0, 0))
theorem Bx.alloc {w w' : World} {z : Value} {cs : Array Value} (h : Bx w w' z cs) (o : Obj) : Bx w (w'.alloc o) z cs := by
  obtain ⟨g, h1, h2, h3⟩ := h
  exact ⟨g, h1, h2, blk_alloc h3 o⟩
theorem Bx.new {w w' : World} (h : w.heap.size < w'.heap.size) (cs : Array Value) : Bx w (w'.alloc (.cells cs 59)) (PP w'.heap.size) cs := ⟨_, rfl, h, blk_new w' _⟩
end Go.Proofs.Ytdhmnjoceeolcaa.Asm
end
section
namespace Go.Proofs.Ytdhmnjoceeolcaa.Asm
open Go.RowKit Go.Proofs.YtdhmnjoceeolcaaW.PrintWords Go.Proofs.YtdhmnjoceeolcaaW.PrintLast Go.Proofs.YtdhmnjoceeolcaaW.PrintMore Go.Proofs.Ytdhmnjoceeolcaa.GF
set_option linter.unusedVariables false
set_option linter.unusedSimpArgs false
/-- Where a label stands in the code. -/
def placeV (l : List S37) (k : Int) : Int × Int :=
  if (asmV l).2 = 0 then (match whO l (settle l) l.length k with | none => (0, 4) | some x => (4 * x, 0)) else (0, (asmV l).2)
theorem asmV_ok (l : List S37) (h : (asmV l).2 = 0) : checkV l = 0 ∧ 4 * atV l (settle l) l.length ≤ 1048576 := by
  unfold asmV at h
  by_cases h1 : checkV l = 0
  · rw [if_pos h1] at h
    by_cases h2 : 1048576 < 4 * atV l (settle l) l.length
    · rw [if_pos h2] at h; exact absurd h (by decide)
    · exact ⟨h1, by omega⟩
  · rw [if_neg h1] at h; exact absurd h h1
set_option maxHeartbeats 16000000 in
set_option maxRecDepth 100000 in
theorem Place_calls {w : World} {A : Option Addr} {l : List S37} {c : Nat} (k : Int) (hL : Aside0 (Kd.C k37 w A l.length l)) :
    Calls Try.prog 14 #[.slice A l.length c, .int .i64 k] w fun e w' => e = .returned (.tuple #[.int .i64 (placeV l k).1, .int .i64 (placeV l k).2]) ∧ Below w.heap.size w w' := by
  have hck := assemble_calls (c := c) hL
  have hpv : Aside0 (placeV l k = if (asmV l).2 = 0 then (match whO l (settle l) l.length k with | none => (0, 4) | some x => (4 * x, 0)) else (0, (asmV l).2)) := ⟨rfl⟩
  have hlen := asmV_ok l
  obtain ⟨av, hav⟩ : ∃ av, asmV l = av := ⟨_, rfl⟩
  rw [hav] at hck hpv hlen
  clear hav
  obtain ⟨s, cd⟩ := av
  simp only at hck hpv hlen
  by_cases hc : cd = 0
  · subst hc
    rw [if_pos rfl] at hpv
    have hl2 := check_len l (hlen rfl).1
    clear hlen
    have hr := whO_range l (settle l) k l.length
    go_enter Try.func14, Try.ntmps14
    go_upto_region 5 with (first | (go_at_call 8; (with_reducible refine hck.mono ?_); rintro e w1 ⟨rfl, hb1⟩; replace hb1 := Aside0.mk hb1) | (go_at_call 17; (with_reducible refine (laid_calls ⟨Kd.C_below hL.out hb1.out⟩ hl2).mono ?_); rintro e w5 ⟨p, ga, gl, m, es, rfl, hY, hes, hb5⟩))
    have y2 := (blk_cell hY.out.bp 2).trans (show _ = some (.map (some m)) from rfl)
    have hlk := lookok hY.out.mp k
    rw [hes.out] at hlk
    clear hck
    generalize whO l (settle l) l.length k = o at *
    cases o with
    | none =>
      simp only [Option.getD_none, Option.isSome_none] at hlk
      go_wp2_with fail
      go_ret2
      exact ⟨by rw [hpv.out]; rfl, below_step hb1.out hb5.out⟩
    | some x =>
      simp only [Option.getD_some, Option.isSome_some] at hlk hr
      have hw4 : IntKind.i64.wrap (4 * x) = 4 * x := IntWalk.i64_in _ (by omega)
      go_wp2_with fail
      go_ret2
      exact ⟨by rw [hpv.out]; rfl, below_step hb1.out hb5.out⟩
  · rw [if_neg hc] at hpv
    clear hlen
    have hne : (cd != 0) = true := by simpa using hc
    replace hc := Aside0.mk hc
    go_enter Try.func14, Try.ntmps14
    go_wp2_with (go_at_call 8; (with_reducible refine hck.mono ?_); rintro e w1 ⟨rfl, hb1⟩; replace hb1 := Aside0.mk hb1)
    go_ret2
    exact ⟨by rw [hpv.out]; rfl, hb1.out⟩
end Go.Proofs.Ytdhmnjoceeolcaa.Asm
end
section
namespace Go.Proofs.Ytdhmnjoceeolcaa.Asm
open Go.RowKit Go.Proofs.YtdhmnjoceeolcaaW.PrintWords Go.Proofs.YtdhmnjoceeolcaaW.PrintLast Go.Proofs.YtdhmnjoceeolcaaW.PrintMore Go.Proofs.Ytdhmnjoceeolcaa.GF Go.Proofs.Ytdhmnjoceeolcaa.FactsDec
set_option linter.unusedVariables false
set_option linter.unusedSimpArgs false
/-- Nothing is far any more. -/
theorem lay_fix (l : List S37) : ∀ k g, g.length = l.length → nl g < k → tv l (lay l k g) l.length = false
  | 0, g, _, h => by omega
  | k + 1, g, hg, h => by
    unfold lay
    cases hv : tv l g l.length
    · simpa using hv
    · rw [if_pos rfl]
      have := (gr_nl l g hg l.length (Nat.le_refl _)).2 hv
      exact lay_fix l k _ (by rw [gr_len]; exact hg) (by omega)
theorem tv_far (l : List S37) (g : List Bool) : ∀ n, tv l g n = false → ∀ i, i < n → farV l g i = false
  | 0, _, i, hi => by omega
  | n + 1, h, i, hi => by
    unfold tv at h
    rw [Bool.or_eq_false_iff] at h
    by_cases e : i = n
    · subst e; exact h.1
    · exact tv_far l g n h.2 i (by omega)
theorem settle_far (l : List S37) (i : Nat) (hi : i < l.length) : farV l (settle l) i = false :=
  tv_far l _ l.length (lay_fix l _ _ (by simp) (by have := nl_le (List.replicate l.length false); simp at this ⊢; omega)) i hi
/-- What is long is a branch of the two kinds. -/
def Lg (l : List S37) (g : List Bool) : Prop := ∀ i, i < l.length → g.getD i false = true → (l.getD i z37).f2 ≠ 0 ∧ ((l.getD i z37).f1.f0 = 39 ∨ (l.getD i z37).f1.f0 = 40)
theorem Lg.gr {l : List S37} {g : List Bool} (h : Lg l g) : ∀ k, k ≤ l.length → Lg l (gr l g k)
  | 0, _ => h
  | k + 1, hk => by
    have ih := Lg.gr h k (by omega)
    intro i hi hp
    unfold Asm.gr at hp
    by_cases hf : farV l g k = true
    · rw [if_pos hf] at hp
      by_cases e : k = i
      · subst e
        unfold farV at hf
        simp only [Bool.and_eq_true, Bool.not_eq_true', beq_eq_false_iff_ne, Bool.or_eq_true, beq_iff_eq] at hf
        exact ⟨hf.1.1.1, hf.1.2⟩
      · rw [List.getD_eq_getElem?_getD, List.getElem?_set_ne e, ← List.getD_eq_getElem?_getD] at hp; exact ih i hi hp
    · rw [if_neg hf] at hp; exact ih i hi hp
theorem Lg.lay {l : List S37} : ∀ k {g : List Bool}, Lg l g → Lg l (lay l k g)
  | 0, g, h => h
  | k + 1, g, h => by
    unfold Asm.lay
    split
    · exact Lg.lay k (Lg.gr h l.length (Nat.le_refl _))
    · exact h
theorem settle_Lg (l : List S37) : Lg l (settle l) := Lg.lay _ (fun i hi h => by simp [List.getD_eq_getElem?_getD, hi] at h)
theorem atV_mono (l : List S37) (g : List Bool) : ∀ n i, i ≤ n → atV l g i ≤ atV l g n
  | 0, i, h => by obtain rfl : i = 0 := by omega
                  exact Int.le_refl _
  | n + 1, i, h => by
    by_cases e : i = n + 1
    · subst e; exact Int.le_refl _
    · have := atV_mono l g n i (by omega)
      have := (szV_range (l.getD n z37) (g.getD n false)).1
      have e2 : atV l g (n + 1) = atV l g n + szV (l.getD n z37) (g.getD n false) := rfl
      omega
/-- Other numbers at the same operation. -/
theorem enc_ok (x : S24) (h : isa_Check.f 7 x.f0 x.f1 x.f2 x.f3 x.f4 = some 0) : encE x = 0 := by
  obtain ⟨p, sd, sa, sb, bits, sign, is, lo, hi, hc⟩ := cl x.f0
  have := check 0 x.f1 x.f2 x.f3 x.f4 hc
  rw [show 0 + 7 = 7 from rfl, h] at this
  by_cases hok : ok x.f1 x.f2 x.f3 x.f4 sd sa sb is lo hi = true
  · have := isaEnc 0 x.f1 x.f2 x.f3 x.f4 hc hok
    unfold encE; rw [this]; rfl
  · rw [if_neg hok] at this; cases this
theorem ok_imm {lo hi d a b i : Int} {sd sa sb is : Bool} (h : ok d a b i sd sa sb is lo hi = true) (j : Int) (h1 : lo ≤ j) (h2 : j ≤ hi) : ok d a b j sd sa sb is lo hi = true := by
  unfold ok at h ⊢
  simp only [Bool.and_eq_true, decide_eq_true_eq] at h ⊢
  exact ⟨h.1, h.2.1, h.2.2.1, h.2.2.2.1, h1, h2⟩
theorem cl39 {op p bits lo hi : Int} {sd sa sb sign is : Bool} (h : Cl op p sd sa sb bits sign is lo hi) (ho : op = 39 ∨ op = 40) : sd = false ∧ sa = true ∧ sb = false ∧ is = true ∧ lo = -32768 ∧ hi = 32767 := by
  unfold Cl at h
  rcases h with h | h | h | h | h | h | h | h | h | h | h <;> first | (exact ⟨h.2.2.1, h.2.2.2.1, h.2.2.2.2.1, h.2.2.2.2.2.2.2.1, h.2.2.2.2.2.2.2.2.1, h.2.2.2.2.2.2.2.2.2⟩) | (exfalso; omega)
theorem cl41 {op p bits lo hi : Int} {sd sa sb sign is : Bool} (h : Cl op p sd sa sb bits sign is lo hi) (ho : op = 41 ∨ op = 42) : sd = false ∧ sa = false ∧ sb = false ∧ is = true ∧ lo = -8388608 ∧ hi = 8388607 := by
  unfold Cl at h
  rcases h with h | h | h | h | h | h | h | h | h | h | h <;> first | (exact ⟨h.2.2.1, h.2.2.2.1, h.2.2.2.2.1, h.2.2.2.2.2.2.2.1, h.2.2.2.2.2.2.2.2.1, h.2.2.2.2.2.2.2.2.2⟩) | (exfalso; omega)
theorem chk_ok {op p bits lo hi d a b i : Int} {sd sa sb sign is : Bool} (hc : Cl op p sd sa sb bits sign is lo hi) (h : isa_Check.f 7 op d a b i = some 0) : ok d a b i sd sa sb is lo hi = true := by
  have := check 0 d a b i hc
  rw [show 0 + 7 = 7 from rfl, h] at this
  by_cases hok : ok d a b i sd sa sb is lo hi = true
  · exact hok
  · rw [if_neg hok] at this; cases this
theorem enc_of {op p bits lo hi d a b i : Int} {sd sa sb sign is : Bool} (hc : Cl op p sd sa sb bits sign is lo hi) (hok : ok d a b i sd sa sb is lo hi = true) : encE ⟨op, d, a, b, i⟩ = 0 := by
  have := isaEnc 0 d a b i hc hok
  unfold encE; rw [this]; rfl
theorem may_plain (x : S37) (h : mayV x = true) (h0 : x.f0 = 0) (h2 : x.f2 = 0) : encE x.f1 = 0 := by
  have hs := may_some x
  rw [h] at hs
  unfold asm_may.f at hs
  rw [if_pos h0, if_pos h2] at hs
  obtain ⟨r, hr⟩ := check_some x.f1.f0 x.f1.f1 x.f1.f2 x.f1.f3 x.f1.f4
  rw [hr] at hs
  simp only [Option.bind_some, Option.some.injEq, beq_iff_eq] at hs
  exact enc_ok _ (by rw [hr, hs])
theorem may_goes (x : S37) (h : mayV x = true) (h2 : x.f2 ≠ 0) : x.f0 = 0 ∧ x.f1.f4 = 0 ∧ (x.f1.f0 = 39 ∨ x.f1.f0 = 40 ∨ x.f1.f0 = 41 ∨ x.f1.f0 = 42) ∧ isa_Check.f 7 x.f1.f0 x.f1.f1 x.f1.f2 x.f1.f3 x.f1.f4 = some 0 := by
  have hl := may_label x h
  have h0 : x.f0 = 0 := by
    by_cases e : 0 < x.f0
    · exact absurd (hl.2.2 e) h2
    · omega
  have hs := may_some x
  rw [h] at hs
  unfold asm_may.f at hs
  rw [if_pos h0, if_neg h2, if_neg (by omega)] at hs
  by_cases h4 : x.f1.f4 = 0
  · rw [if_pos h4] at hs
    obtain ⟨r, hr⟩ := check_some x.f1.f0 x.f1.f1 x.f1.f2 x.f1.f3 x.f1.f4
    rw [hr] at hs
    unfold asm_branches.f at hs
    have key : (x.f1.f0 = 39 ∨ x.f1.f0 = 40 ∨ x.f1.f0 = 41 ∨ x.f1.f0 = 42) ∧ r = 0 := by
      by_cases c1 : x.f1.f0 = 39
      · simp [c1] at hs; exact ⟨.inl c1, hs⟩
      · by_cases c2 : x.f1.f0 = 40
        · simp [c2] at hs; exact ⟨.inr (.inl c2), hs⟩
        · by_cases c3 : x.f1.f0 = 41
          · simp [c3] at hs; exact ⟨.inr (.inr (.inl c3)), hs⟩
          · by_cases c4 : x.f1.f0 = 42
            · simp [c4] at hs; exact ⟨.inr (.inr (.inr c4)), hs⟩
            · simp [c1, c2, c3, c4] at hs
    exact ⟨h0, h4, key.1, by rw [hr, key.2]⟩
  · rw [if_neg h4] at hs; cases hs
/-- What a line is, and that each of its instructions may be. -/
theorem line_words {l : List S37} (H : Okl l) (hn : 4 * atV l (settle l) l.length ≤ 1048576) (i : Nat) (hi : i < l.length) (h0 : ¬ 0 < (l.getD i z37).f0) :
    ((l.getD i z37).f2 = 0 ∧ wordsV l (settle l) (l.getD i z37) i = [(l.getD i z37).f1] ∧ szV (l.getD i z37) ((settle l).getD i false) = 1 ∧ encE (l.getD i z37).f1 = 0) ∨
    ((l.getD i z37).f2 ≠ 0 ∧ wordsV l (settle l) (l.getD i z37) i = [⟨(l.getD i z37).f1.f0, (l.getD i z37).f1.f1, (l.getD i z37).f1.f2, (l.getD i z37).f1.f3, dV l (settle l) i⟩] ∧ szV (l.getD i z37) ((settle l).getD i false) = 1 ∧ encE ⟨(l.getD i z37).f1.f0, (l.getD i z37).f1.f1, (l.getD i z37).f1.f2, (l.getD i z37).f1.f3, dV l (settle l) i⟩ = 0) ∨
    ((l.getD i z37).f2 ≠ 0 ∧ ((l.getD i z37).f1.f0 = 39 ∨ (l.getD i z37).f1.f0 = 40) ∧ wordsV l (settle l) (l.getD i z37) i = [⟨79 - (l.getD i z37).f1.f0, (l.getD i z37).f1.f1, (l.getD i z37).f1.f2, (l.getD i z37).f1.f3, 1⟩, ⟨41, 0, 0, 0, dV l (settle l) i - 1⟩] ∧ szV (l.getD i z37) ((settle l).getD i false) = 2 ∧ encE ⟨79 - (l.getD i z37).f1.f0, (l.getD i z37).f1.f1, (l.getD i z37).f1.f2, (l.getD i z37).f1.f3, 1⟩ = 0 ∧ encE ⟨41, 0, 0, 0, dV l (settle l) i - 1⟩ = 0) := by
  have hm := H.may i hi
  have hfar := settle_far l i hi
  have hLg := settle_Lg l i hi
  have hgo := H.goes i hi
  have hgl := settle_len l
  have hlab := may_label _ hm
  have ha := atV_range l (settle l) i
  have hai := atV_mono l (settle l) l.length i (by omega)
  have hwh : (l.getD i z37).f2 ≠ 0 → 0 ≤ whV l (settle l) (l.getD i z37).f2 ∧ whV l (settle l) (l.getD i z37).f2 ≤ 262144 := fun h => by
    obtain ⟨j, hj, e⟩ := hgo (by have := hlab.2.1; omega)
    have := wh_at H (settle l) _ (by have := hlab.2.1; omega) j hj e
    unfold whV
    rw [this]
    have h1 := atV_range l (settle l) j
    have h2 := atV_mono l (settle l) l.length j (by omega)
    simp only [Option.getD_some]
    omega
  have hdV : dV l (settle l) i = whV l (settle l) (l.getD i z37).f2 - atV l (settle l) i - 1 := rfl
  have hplain := may_plain _ hm
  have hbr := may_goes _ hm
  unfold farV at hfar
  generalize l.getD i z37 = x at *
  obtain ⟨gi, hge⟩ : ∃ gi, (settle l).getD i false = gi := ⟨_, rfl⟩
  rw [hge] at hLg hfar ⊢
  have hx0 : x.f0 = 0 := by have := hlab.1; omega
  have hsz : szV x gi = if gi = true then 2 else 1 := by unfold szV; rw [if_neg h0]
  by_cases c2 : x.f2 = 0
  · refine .inl ⟨c2, ?_, ?_, hplain hx0 c2⟩
    · unfold wordsV; rw [if_pos c2]
    · cases gi
      · rw [hsz]; rfl
      · exact absurd c2 (hLg rfl).1
  · obtain ⟨_, b4, bop, bck⟩ := hbr c2
    obtain ⟨w0, w1⟩ := hwh c2
    obtain ⟨p, sd, sa, sb, bits, sign, is, lo, hi', hc⟩ := cl x.f1.f0
    have hok := chk_ok hc bck
    cases gi
    · refine .inr (.inl ⟨c2, ?_, by rw [hsz]; rfl, ?_⟩)
      · unfold wordsV
        rw [if_neg c2, if_pos hge, hdV]
        congr 2
        unfold wrap32; omega
      · refine enc_of hc (ok_imm hok _ ?_ ?_)
        all_goals
          rcases bop with e | e | e | e
          · have := cl39 hc (.inl e)
            simp [c2, e] at hfar
            omega
          · have := cl39 hc (.inr e)
            simp [c2, e] at hfar
            omega
          · have := cl41 hc (.inl e)
            omega
          · have := cl41 hc (.inr e)
            omega
    · obtain ⟨_, h39⟩ := hLg rfl
      refine .inr (.inr ⟨c2, h39, ?_, by rw [hsz]; rfl, ?_, ?_⟩)
      · unfold wordsV
        rw [if_neg c2, if_neg (by rw [hge]; decide), hdV]
        have e1 : wrap64 (79 - x.f1.f0) = 79 - x.f1.f0 := by unfold wrap64; omega
        have e2 : wrap32 (wrap32 (whV l (settle l) x.f2 - atV l (settle l) i) - 2) = whV l (settle l) x.f2 - atV l (settle l) i - 1 - 1 := by unfold wrap32; omega
        rw [e1, e2]
      · obtain ⟨p', sd', sa', sb', bits', sign', is', lo', hi'', hc'⟩ := cl (79 - x.f1.f0)
        have k1 := cl39 hc h39
        have k2 := cl39 hc' (by omega)
        refine enc_of hc' ?_
        obtain ⟨rfl, rfl, rfl, rfl, rfl, rfl⟩ := k1
        obtain ⟨rfl, rfl, rfl, rfl, rfl, rfl⟩ := k2
        exact ok_imm hok 1 (by omega) (by omega)
      · obtain ⟨p', sd', sa', sb', bits', sign', is', lo', hi'', hc'⟩ := cl 41
        have k2 := cl41 hc' (.inl rfl)
        refine enc_of hc' ?_
        obtain ⟨rfl, rfl, rfl, rfl, rfl, rfl⟩ := k2
        unfold ok rg
        simp
        omega
theorem byt_range (w : Int) : ∀ b ∈ byt w, 0 ≤ b ∧ b ≤ 255 := by
  intro b hb
  simp only [byt, List.mem_cons, List.not_mem_nil, or_false] at hb
  rcases hb with rfl | rfl | rfl | rfl <;> omega
theorem outV_range (l : List S37) (g : List Bool) : ∀ n, ∀ b ∈ outV l g n, 0 ≤ b ∧ b ≤ 255
  | 0, b, h => by cases h
  | n + 1, b, h => by
    unfold outV at h
    rcases List.mem_append.1 h with h | h
    · exact outV_range l g n b h
    · by_cases c : 0 < (l.getD n z37).f0
      · rw [if_pos c] at h; cases h
      · rw [if_neg c] at h
        obtain ⟨y, _, hy⟩ := List.mem_flatMap.1 h
        exact byt_range _ b hy
theorem bt_out (xs : List Int) (hx : ∀ b ∈ xs, 0 ≤ b ∧ b ≤ 255) (k : Nat) (hk : k < xs.length) : bt (strOfNums xs) (k : Int) = xs.getD k 0 := by
  have h1 : (strOfNums xs).size = xs.length := by simp [strOfNums, ByteArray.size]
  have hr := hx _ (getD_mem xs 0 k hk)
  have hg : xs.getD k 0 = xs[k] := by rw [List.getD_eq_getElem?_getD, List.getElem?_eq_getElem hk]; rfl
  rw [hg] at hr ⊢
  unfold bt
  rw [dif_pos (by simp; omega)]
  simp only [Int.toNat_natCast]
  have : ((strOfNums xs)[k]'(by omega)) = UInt8.ofNat (xs[k]).toNat := by simp [strOfNums, ByteArray.getElem_eq_getElem_data]
  rw [this]
  simp
  omega
theorem outV_pre (l : List S37) (g : List Bool) : ∀ n i, i ≤ n → ∃ t, outV l g n = outV l g i ++ t
  | 0, i, h => ⟨[], by obtain rfl : i = 0 := by omega
                       simp⟩
  | n + 1, i, h => by
    by_cases e : i = n + 1
    · subst e; exact ⟨[], by simp⟩
    · obtain ⟨t, ht⟩ := outV_pre l g n i (by omega)
      have e2 : outV l g (n + 1) = outV l g n ++ (if 0 < (l.getD n z37).f0 then [] else (wordsV l g (l.getD n z37) n).flatMap fun x => byt (encV x)) := rfl
      exact ⟨_, by rw [e2, ht, List.append_assoc]⟩
theorem out_len {l : List S37} (H : Okl l) (hn : 4 * atV l (settle l) l.length ≤ 1048576) : ∀ i, i ≤ l.length → ((outV l (settle l) i).length : Int) = 4 * atV l (settle l) i
  | 0, _ => rfl
  | i + 1, h => by
    have ih := out_len H hn i (by omega)
    have e1 : atV l (settle l) (i + 1) = atV l (settle l) i + szV (l.getD i z37) ((settle l).getD i false) := rfl
    have e2 : outV l (settle l) (i + 1) = outV l (settle l) i ++ (if 0 < (l.getD i z37).f0 then [] else (wordsV l (settle l) (l.getD i z37) i).flatMap fun x => byt (encV x)) := rfl
    rw [e2, List.length_append]
    by_cases c : 0 < (l.getD i z37).f0
    · have : szV (l.getD i z37) ((settle l).getD i false) = 0 := by unfold szV; rw [if_pos c]
      rw [if_pos c, e1, this]; simp; omega
    · rw [if_neg c, byt_len]
      rcases line_words H hn i (by omega) c with ⟨_, hw, hs, _⟩ | ⟨_, hw, hs, _⟩ | ⟨_, _, hw, hs, _⟩
      · rw [hw, e1, hs]; simp; omega
      · rw [hw, e1, hs]; simp; omega
      · rw [hw, e1, hs]; simp; omega
/-- The bytes of a line's m-th instruction. -/
theorem out_word {l : List S37} (H : Okl l) (hn : 4 * atV l (settle l) l.length ≤ 1048576) (i : Nat) (hi : i < l.length) (h0 : ¬ 0 < (l.getD i z37).f0) (m : Nat) (y : S24) (hy : (wordsV l (settle l) (l.getD i z37) i)[m]? = some y) (n : Nat) (hna : (n : Int) = atV l (settle l) i) :
    4 * (n + m) + 4 ≤ (strOfNums (outV l (settle l) l.length)).size ∧ ∀ q, q < 4 → bt (strOfNums (outV l (settle l) l.length)) ((4 * (n + m) + q : Nat) : Int) = (byt (encV y)).getD q 0 := by
  have hl := out_len H hn i (by omega)
  have e2 : outV l (settle l) (i + 1) = outV l (settle l) i ++ (if 0 < (l.getD i z37).f0 then [] else (wordsV l (settle l) (l.getD i z37) i).flatMap fun x => byt (encV x)) := rfl
  rw [if_neg h0] at e2
  obtain ⟨t, ht⟩ := outV_pre l (settle l) l.length (i + 1) (by omega)
  have hr := outV_range l (settle l) l.length
  have hlo : (outV l (settle l) i).length = 4 * n := by omega
  have hz : (strOfNums (outV l (settle l) l.length)).size = (outV l (settle l) l.length).length := by simp [strOfNums, ByteArray.size]
  rw [hz]
  have hwl := wordsV_len l (settle l) (l.getD i z37) i
  generalize wordsV l (settle l) (l.getD i z37) i = ws at *
  have hm : m < ws.length := (List.getElem?_eq_some_iff.1 hy).1
  have htot : (outV l (settle l) l.length).length = 4 * n + 4 * ws.length + t.length := by rw [ht, e2, List.length_append, List.length_append, byt_len, hlo]
  have key : ∀ q, q < 4 → (outV l (settle l) l.length).getD (4 * (n + m) + q) 0 = (byt (encV y)).getD q 0 := fun q hq => by
    rw [ht, e2, List.append_assoc, List.getD_eq_getElem?_getD, List.getElem?_append_right (by omega), hlo]
    rw [List.getElem?_append_left (by rw [byt_len]; omega), List.getD_eq_getElem?_getD]
    have hmm : m = 0 ∨ m = 1 := by omega
    rcases hmm with rfl | rfl
    · match ws, hy with
      | z :: zs, hy =>
        simp only [List.getElem?_cons_zero, Option.some.injEq] at hy
        subst hy
        rw [List.flatMap_cons, List.getElem?_append_left (by simp [byt]; omega)]
        congr 2; omega
    · match ws, hy with
      | z :: z2 :: zs, hy =>
        simp only [List.getElem?_cons_succ, List.getElem?_cons_zero, Option.some.injEq] at hy
        subst hy
        have hb4 : (byt (encV z)).length = 4 := rfl
        rw [List.flatMap_cons, List.getElem?_append_right (by omega), List.flatMap_cons, List.getElem?_append_left (by simp [byt]; omega)]
        congr 2; omega
  refine ⟨by omega, fun q hq => ?_⟩
  rw [bt_out _ hr _ (by omega), key q hq]
end Go.Proofs.Ytdhmnjoceeolcaa.Asm
end
section
namespace Go.Proofs.Ytdhmnjoceeolcaa.RefIsa
open Go.RowKit Go.Proofs.Ytdhmnjoceeolcaa.GF Go.Proofs.Ytdhmnjoceeolcaa.FactsDec Go.Proofs.YtdhmnjoceeolcaaW.PrintWords Go.Proofs.YtdhmnjoceeolcaaW.PrintLast Go.Proofs.YtdhmnjoceeolcaaW.PrintMore
set_option linter.unusedVariables false
set_option linter.unusedSimpArgs false
theorem reg (r : Int) (h v : Bool) (w : World) (hv : rg r h = v) : Calls Try.prog 40 #[.int .i64 r, .bool h] w fun e w' => e = .returned (.bool v) ∧ w = w' := by
  subst hv
  unfold rg
  by_cases h0 : r = 0
  · subst h0
    go_enter Try.func40, Try.ntmps40
    go_wp2
    go_ret
    exact ⟨by simp, rfl⟩
  · have e0 : (r == 0) = false := beq_eq_false_iff_ne.2 h0
    cases h with
    | false =>
      go_enter Try.func40, Try.ntmps40
      go_wp2
      go_ret
      exact ⟨by simp [e0], rfl⟩
    | true =>
      by_cases h1 : 0 < r
      · by_cases h2 : r < 16
        · go_enter Try.func40, Try.ntmps40
          go_wp2
          go_ret
          exact ⟨by simp [h2]; omega, rfl⟩
        · have h2' : decide (r < 16) = false := by simpa using h2
          go_enter Try.func40, Try.ntmps40
          go_wp2
          go_ret
          exact ⟨by simp [h2], rfl⟩
      · have h1' : decide (0 < r) = false := by simpa using h1
        go_enter Try.func40, Try.ntmps40
        go_wp2
        go_ret
        exact ⟨by first | (simp; done) | (simp; omega), rfl⟩
/-- An operand's bits, its sign, its least and greatest. -/
def Im (bits : Int) (sign : Bool) (lo hi : Int) : Prop := (bits = 0 ∧ sign = false ∧ lo = 0 ∧ hi = 0) ∨ (bits = 16 ∧ sign = true ∧ lo = -32768 ∧ hi = 32767) ∨ (bits = 16 ∧ sign = false ∧ lo = 0 ∧ hi = 65535) ∨ (bits = 24 ∧ sign = true ∧ lo = -8388608 ∧ hi = 8388607)
set_option maxHeartbeats 4000000 in
set_option maxRecDepth 100000 in
theorem imm (op d a b i bits lo hi : Int) (sd sa sb sign is v : Bool) (w : World) (h0 : -2147483648 ≤ i) (h1 : i ≤ 2147483647) (H : Im bits sign lo hi) (hv : (decide (lo ≤ i) && decide (i ≤ hi)) = v) :
    Calls Try.prog 41 #[.agg #[.int .i64 op, .int .i64 d, .int .i64 a, .int .i64 b, .int .i32 i], .agg #[.bool sd, .bool sa, .bool sb, .int .i64 bits, .bool sign, .bool is]] w
      fun e w' => e = .returned (.bool v) ∧ Below w.heap.size w w' := by
  subst hv
  rcases H with ⟨rfl, rfl, rfl, rfl⟩ | ⟨rfl, rfl, rfl, rfl⟩ | ⟨rfl, rfl, rfl, rfl⟩ | ⟨rfl, rfl, rfl, rfl⟩
  · by_cases c1 : i = 0
    · subst c1
      go_enter Try.func41, Try.ntmps41
      go_wp2
      go_ret
      exact ⟨by simp, by repeat (first | exact Below.refl _ _ | apply below_alloc)⟩
    · have e1 : (i == 0) = false := beq_eq_false_iff_ne.2 c1
      go_enter Try.func41, Try.ntmps41
      go_wp2
      go_ret
      exact ⟨by simp [e1]; omega, by repeat (first | exact Below.refl _ _ | apply below_alloc)⟩
  · by_cases c1 : -32768 ≤ i
    · by_cases c2 : i < 32768
      · go_enter Try.func41, Try.ntmps41
        go_wp2
        go_ret
        exact ⟨by first | (simp; done) | (simp; omega), by repeat (first | exact Below.refl _ _ | apply below_alloc)⟩
      · have c2' : decide (i < 32768) = false := by simpa using c2
        go_enter Try.func41, Try.ntmps41
        go_wp2
        go_ret
        exact ⟨by first | (simp; done) | (simp; omega), by repeat (first | exact Below.refl _ _ | apply below_alloc)⟩
    · have c1' : decide (-32768 ≤ i) = false := by simpa using c1
      go_enter Try.func41, Try.ntmps41
      go_wp2
      go_ret
      exact ⟨by first | (simp; done) | (simp; omega), by repeat (first | exact Below.refl _ _ | apply below_alloc)⟩
  · by_cases c1 : 0 ≤ i
    · by_cases c2 : i < 65536
      · go_enter Try.func41, Try.ntmps41
        go_wp2
        go_ret
        exact ⟨by first | (simp; done) | (simp; omega), by repeat (first | exact Below.refl _ _ | apply below_alloc)⟩
      · have c2' : decide (i < 65536) = false := by simpa using c2
        go_enter Try.func41, Try.ntmps41
        go_wp2
        go_ret
        exact ⟨by first | (simp; done) | (simp; omega), by repeat (first | exact Below.refl _ _ | apply below_alloc)⟩
    · have c1' : decide (0 ≤ i) = false := by simpa using c1
      go_enter Try.func41, Try.ntmps41
      go_wp2
      go_ret
      exact ⟨by first | (simp; done) | (simp; omega), by repeat (first | exact Below.refl _ _ | apply below_alloc)⟩
  · by_cases c1 : -8388608 ≤ i
    · by_cases c2 : i < 8388608
      · go_enter Try.func41, Try.ntmps41
        go_wp2
        go_ret
        exact ⟨by first | (simp; done) | (simp; omega), by repeat (first | exact Below.refl _ _ | apply below_alloc)⟩
      · have c2' : decide (i < 8388608) = false := by simpa using c2
        go_enter Try.func41, Try.ntmps41
        go_wp2
        go_ret
        exact ⟨by first | (simp; done) | (simp; omega), by repeat (first | exact Below.refl _ _ | apply below_alloc)⟩
    · have c1' : decide (-8388608 ≤ i) = false := by simpa using c1
      go_enter Try.func41, Try.ntmps41
      go_wp2
      go_ret
      exact ⟨by first | (simp; done) | (simp; omega), by repeat (first | exact Below.refl _ _ | apply below_alloc)⟩
theorem bcell {W w1 : World} (hb : Below W.heap.size W w1) : (∀ b o, b < W.heap.size → w1.cell? ⟨b, o, none⟩ = W.cell? ⟨b, o, none⟩) ∧ (∀ b o, b < W.heap.size → w1.frozen? ⟨b, o, none⟩ = W.frozen? ⟨b, o, none⟩) :=
  ⟨fun b o h => hb.cell (p := ⟨b, o, none⟩) h, fun b o h => hb.frozen (p := ⟨b, o, none⟩) h⟩
theorem im_of {op p bits lo hi : Int} {sd sa sb sign is : Bool} (h : Cl op p sd sa sb bits sign is lo hi) (h46 : op ≠ 46) : Im bits sign lo hi := by
  unfold Im
  rcases h with ⟨_, rfl, rfl, rfl, rfl, rfl, rfl, rfl, rfl, rfl⟩ | ⟨_, rfl, rfl, rfl, rfl, rfl, rfl, rfl, rfl, rfl⟩ | ⟨_, rfl, rfl, rfl, rfl, rfl, rfl, rfl, rfl, rfl⟩ | ⟨_, rfl, rfl, rfl, rfl, rfl, rfl, rfl, rfl, rfl⟩ | ⟨_, rfl, rfl, rfl, rfl, rfl, rfl, rfl, rfl, rfl⟩ | ⟨_, rfl, rfl, rfl, rfl, rfl, rfl, rfl, rfl, rfl⟩ | ⟨_, rfl, rfl, rfl, rfl, rfl, rfl, rfl, rfl, rfl⟩ | ⟨_, rfl, rfl, rfl, rfl, rfl, rfl, rfl, rfl, rfl⟩ | ⟨_, rfl, rfl, rfl, rfl, rfl, rfl, rfl, rfl, rfl⟩ | ⟨h, rfl, rfl, rfl, rfl, rfl, rfl, rfl, rfl, rfl⟩ | ⟨_, rfl, rfl, rfl, rfl, rfl, rfl, rfl, rfl, rfl⟩
  all_goals first | (exact absurd h h46) | simp
set_option maxHeartbeats 4000000 in
set_option maxRecDepth 100000 in
/-- Behind the test of a trap's kind: the parts, one by one. -/
theorem may_on (k : Nat) (op d a b i bits lo hi : Int) (sd sa sb sign is v : Bool) (w : World) (h0 : -2147483648 ≤ i) (h1 : i ≤ 2147483647)
    (hs : Aside0 (crucibleref02_shaped.f k op = some (sd, sa, sb, bits, sign, is))) (H : Im bits sign lo hi) (h46 : (op == 46) = false ∨ ((op == 46) = true ∧ decide (i < 1) = false ∧ decide (5 < i) = false))
    (hv : ok d a b i sd sa sb is lo hi = v) :
    Calls Try.prog 34 #[.agg #[.int .i64 op, .int .i64 d, .int .i64 a, .int .i64 b, .int .i32 i]] w fun e w' => e = .returned (.bool v) ∧ Below w.heap.size w w' := by
  subst hv
  unfold ok
  rcases h46 with e46 | ⟨e46, t1, t2⟩
  all_goals
    cases is with
    | false =>
      go_enter Try.func34, Try.ntmps34
      go_wp2_with fail
      (with_reducible refine (crucibleref02_shaped.calls k op _ _ _ _ _ _ _ hs.out).mono ?_)
      rintro e w1 ⟨rfl, hb⟩
      obtain ⟨hc, hf⟩ := bcell hb
      have hz : w.heap.size < w1.heap.size := by have := hb.size; simp at this; omega
      go_wp2
      go_ret
      refine ⟨by simp, ?_⟩
      have hb1 : Below w.heap.size w w1 := (below_alloc (Below.refl _ _) _).trans (hb.mono (by simp))
      exact below_alloc hb1 _
    | true =>
      cases hd0 : rg d sd with
      | false =>
        have hd := Lib.hid hd0; clear hd0
        go_enter Try.func34, Try.ntmps34
        go_wp2_with fail
        (with_reducible refine (crucibleref02_shaped.calls k op _ _ _ _ _ _ _ hs.out).mono ?_)
        rintro e w1 ⟨rfl, hb⟩
        obtain ⟨hc, hf⟩ := bcell hb
        have hz : w.heap.size < w1.heap.size := by have := hb.size; simp at this; omega
        go_wp2_with fail
        (with_reducible refine (reg d sd false _ hd.out).mono ?_)
        rintro e w' ⟨rfl, rfl⟩
        go_wp2
        go_ret
        refine ⟨by simp [hd.out], ?_⟩
        have hb1 : Below w.heap.size w w1 := (below_alloc (Below.refl _ _) _).trans (hb.mono (by simp))
        exact below_alloc hb1 _
      | true =>
        have hd := Lib.hid hd0; clear hd0
        cases ha0 : rg a sa with
        | false =>
          have ha := Lib.hid ha0; clear ha0
          go_enter Try.func34, Try.ntmps34
          go_wp2_with fail
          (with_reducible refine (crucibleref02_shaped.calls k op _ _ _ _ _ _ _ hs.out).mono ?_)
          rintro e w1 ⟨rfl, hb⟩
          obtain ⟨hc, hf⟩ := bcell hb
          have hz : w.heap.size < w1.heap.size := by have := hb.size; simp at this; omega
          go_wp2_with fail
          (with_reducible refine (reg d sd true _ hd.out).mono ?_)
          rintro e w' ⟨rfl, rfl⟩
          go_wp2_with fail
          (with_reducible refine (reg a sa false _ ha.out).mono ?_)
          rintro e w' ⟨rfl, rfl⟩
          go_wp2
          go_ret
          refine ⟨by simp [hd.out, ha.out], ?_⟩
          have hb1 : Below w.heap.size w w1 := (below_alloc (Below.refl _ _) _).trans (hb.mono (by simp))
          exact below_alloc hb1 _
        | true =>
          have ha := Lib.hid ha0; clear ha0
          cases hr0 : rg b sb with
          | false =>
            have hr := Lib.hid hr0; clear hr0
            go_enter Try.func34, Try.ntmps34
            go_wp2_with fail
            (with_reducible refine (crucibleref02_shaped.calls k op _ _ _ _ _ _ _ hs.out).mono ?_)
            rintro e w1 ⟨rfl, hb⟩
            obtain ⟨hc, hf⟩ := bcell hb
            have hz : w.heap.size < w1.heap.size := by have := hb.size; simp at this; omega
            go_wp2_with fail
            (with_reducible refine (reg d sd true _ hd.out).mono ?_)
            rintro e w' ⟨rfl, rfl⟩
            go_wp2_with fail
            (with_reducible refine (reg a sa true _ ha.out).mono ?_)
            rintro e w' ⟨rfl, rfl⟩
            go_wp2_with fail
            (with_reducible refine (reg b sb false _ hr.out).mono ?_)
            rintro e w' ⟨rfl, rfl⟩
            go_wp2
            go_ret
            refine ⟨by simp [hd.out, ha.out, hr.out], ?_⟩
            have hb1 : Below w.heap.size w w1 := (below_alloc (Below.refl _ _) _).trans (hb.mono (by simp))
            exact below_alloc hb1 _
          | true =>
            have hr := Lib.hid hr0; clear hr0
            generalize hv0 : (decide (lo ≤ i) && decide (i ≤ hi)) = v
            have hv := Lib.hid hv0; clear hv0
            go_enter Try.func34, Try.ntmps34
            go_wp2_with fail
            (with_reducible refine (crucibleref02_shaped.calls k op _ _ _ _ _ _ _ hs.out).mono ?_)
            rintro e w1 ⟨rfl, hb⟩
            obtain ⟨hc, hf⟩ := bcell hb
            have hz : w.heap.size < w1.heap.size := by have := hb.size; simp at this; omega
            go_wp2_with fail
            (with_reducible refine (reg d sd true _ hd.out).mono ?_)
            rintro e w' ⟨rfl, rfl⟩
            go_wp2_with fail
            (with_reducible refine (reg a sa true _ ha.out).mono ?_)
            rintro e w' ⟨rfl, rfl⟩
            go_wp2_with fail
            (with_reducible refine (reg b sb true _ hr.out).mono ?_)
            rintro e w' ⟨rfl, rfl⟩
            go_wp2_with fail
            (with_reducible refine (imm op d a b i bits lo hi sd sa sb sign true v _ h0 h1 H hv.out).mono ?_)
            rintro e w2 ⟨rfl, hb2⟩
            go_wp2
            go_ret
            refine ⟨by simp [hd.out, ha.out, hr.out], ?_⟩
            have hb1 : Below w.heap.size w w1 := (below_alloc (Below.refl _ _) _).trans (hb.mono (by simp))
            exact below_then (below_alloc hb1 _) (by simp; omega) hb2
end Go.Proofs.Ytdhmnjoceeolcaa.RefIsa
end
