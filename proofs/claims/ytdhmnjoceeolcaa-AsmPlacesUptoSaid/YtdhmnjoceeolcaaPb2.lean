/- Texts laid together for a claim. -/
import Derived.Outline
import Derived.MapKept
import Derived.Maps.OwnSet
import Derived.Deep.RegionHeld3
import Derived.OpenShut
import Derived.Laws.BitsAllLaws
import Derived.WalkKit
import Derived.KernelRfl
import Derived.WalkSpells
import Derived.Deep.QuietTactic
import Derived.BigQuiet
import Derived.StillTailTactics
import Derived.Test.YtdhmnjoceeolcaaPb1
section
namespace Go.Proofs.Ytdhmnjoceeolcaa.GF
open Go.RowKit Go.Proofs.YtdhmnjoceeolcaaW.PrintWords Go.Proofs.YtdhmnjoceeolcaaW.PrintLast Go.Proofs.YtdhmnjoceeolcaaW.PrintMore
attribute [local go_sem] max2_int min2_int max_two min_two max_three min_three max_four min_four   -- for this text's walks alone
set_option linter.unusedVariables false
set_option linter.unusedSimpArgs false
attribute [local go_sem high] eqA24
def isa_Check.f (k : Nat) (a0_0 : Int) (a0_1 : Int) (a0_2 : Int) (a0_3 : Int) (a0_4 : Int) : Option (Int) := (isa_parts.f k a0_0).bind fun t112 => (if t112 = 0 then (some 1) else ((isa_register.f a0_1 ((Go.bits .and .i64 t112 1) != 0)).bind fun t113 => (if t113 = true then ((isa_register.f a0_2 ((Go.bits .and .i64 t112 2) != 0)).bind fun t114 => (if t114 = true then ((isa_register.f a0_3 ((Go.bits .and .i64 t112 4) != 0)).bind fun t115 => (if t115 = true then ((isa_within.f a0_4 t112).bind fun t116 => (if t116 = true then (some 0) else (some 1))) else (some 1))) else (some 1))) else (some 1))))
set_option maxHeartbeats 8000000 in
set_option maxRecDepth 100000 in
theorem isa_Check.calls (k : Nat) (a0_0 : Int) (a0_1 : Int) (a0_2 : Int) (a0_3 : Int) (a0_4 : Int) (r : Int) (w : World) (h : isa_Check.f k a0_0 a0_1 a0_2 a0_3 a0_4 = some r) :
    Calls Try.prog 29 #[.agg #[.int .i64 a0_0, .int .i64 a0_1, .int .i64 a0_2, .int .i64 a0_3, .int .i32 a0_4]] w fun e w' => e = .returned (.int .i64 r) ∧ Below w.heap.size w w' := by
  have hu24 := Try.underlying24
  have HB := Aside0.mk (Below.refl w.heap.size w)
  have H : ((isa_parts.f k a0_0).bind fun t112 => (if t112 = 0 then (some 1) else ((isa_register.f a0_1 ((Go.bits .and .i64 t112 1) != 0)).bind fun t113 => (if t113 = true then ((isa_register.f a0_2 ((Go.bits .and .i64 t112 2) != 0)).bind fun t114 => (if t114 = true then ((isa_register.f a0_3 ((Go.bits .and .i64 t112 4) != 0)).bind fun t115 => (if t115 = true then ((isa_within.f a0_4 t112).bind fun t116 => (if t116 = true then (some 0) else (some 1))) else (some 1))) else (some 1))) else (some 1))))) = some r := h
  clear h
  replace H := Option.bind_eq_some_iff.mp H
  obtain ⟨t112, A20, H⟩ := H
  replace H : (if t112 = 0 then (some 1) else ((isa_register.f a0_1 ((Go.bits .and .i64 t112 1) != 0)).bind fun t113 => (if t113 = true then ((isa_register.f a0_2 ((Go.bits .and .i64 t112 2) != 0)).bind fun t114 => (if t114 = true then ((isa_register.f a0_3 ((Go.bits .and .i64 t112 4) != 0)).bind fun t115 => (if t115 = true then ((isa_within.f a0_4 t112).bind fun t116 => (if t116 = true then (some 0) else (some 1))) else (some 1))) else (some 1))) else (some 1)))) = some r := H
  have A2 := Aside0.mk A20
  clear A20
  by_cases c3 : t112 = 0
  · rw [if_pos c3] at H
    have c3b0 : (t112 == 0) = true := beq_iff_eq.mpr c3
    have c3b1 : (t112 != 0) = false := bne_eq_false_iff_eq.mpr c3
    clear c3
    obtain rfl := Option.some.inj H
    go_enter Try.func29, Try.ntmps29
    go_wp2_with (first | ((with_reducible refine gate_dst (N := 1) rfl ?_); refine box_event ?hg (N := 1) ?hd (cs := #[.int .i64 a0_0, .int .i64 a0_1, .int .i64 a0_2, .int .i64 a0_3, .int .i32 a0_4]) (t := 24) ?hr ?_; (case hd => rfl); (case hg => rfl); (case hr => first | (go_simp; done) | (go_simp; rfl)); intro gb111 hg w4 hbox hb; have n0_ := Aside0.mk (below_step (by repeat (first | (with_reducible first | exact HB.out | apply below_alloc | apply pw_below_drewN | apply below_drew1) | exact HB.out)) hb); have n1_ := Aside0.mk (hbox); have n2_ := Aside0.mk ((by rw [hg]; exact (below_size (by repeat (first | (with_reducible first | exact HB.out | apply below_alloc | apply pw_below_drewN | apply below_drew1) | exact HB.out))) : w.heap.size ≤ gb111)); have n3_ := Aside0.mk ((by rw [hg]; exact (below_size (by repeat (first | (with_reducible first | exact HB.out | apply below_alloc | apply pw_below_drewN | apply below_drew1) | exact HB.out))) : w.heap.size ≤ gb111)); clear HB; have HB := n0_; have BK111 := n1_; have GW111 := n2_; have GE111 := n3_; clear n0_ n1_ n2_ n3_; clear hb hbox hg; have hcz5_0 : w4.cell? ⟨gb111, 0, none⟩ = some (.int .i64 a0_0) := (blk_cell BK111.out 0).trans rfl; have hcz5_1 : w4.cell? ⟨gb111, 1, none⟩ = some (.int .i64 a0_1) := (blk_cell BK111.out 1).trans rfl; have hcz5_2 : w4.cell? ⟨gb111, 2, none⟩ = some (.int .i64 a0_2) := (blk_cell BK111.out 2).trans rfl; have hcz5_3 : w4.cell? ⟨gb111, 3, none⟩ = some (.int .i64 a0_3) := (blk_cell BK111.out 3).trans rfl; have hcz5_4 : w4.cell? ⟨gb111, 4, none⟩ = some (.int .i32 a0_4) := (blk_cell BK111.out 4).trans rfl; have hfz5_0 := blk_frozen BK111.out 0; have hfz5_1 := blk_frozen BK111.out 1; have hfz5_2 := blk_frozen BK111.out 2; have hfz5_3 := blk_frozen BK111.out 3; have hfz5_4 := blk_frozen BK111.out 4) | ((with_reducible refine gate_callee (f := 30) rfl ?_); refine goesL_ (some 6) rfl rfl Try.func30 (by kernel_rfl) rfl #[.int .i64 a0_0] rfl (by (try simp only [List.map_toArray, List.map_cons, List.map_nil]); first | done | rfl | (simp only [List.length_drop, List.length_take]; rfl)) ?_; (with_reducible refine (isa_parts.calls k a0_0 t112 _ A2.out).mono ?_); rintro e w' ⟨rfl, ⟨nd, rfl⟩⟩; refine ⟨_, rfl, ?_⟩))
    go_ret
    exact ⟨by first | rfl | (simp [errW_none, errW_some] <;> rfl) | (simp [*, errW_none, errW_some] <;> rfl), by repeat (first | (with_reducible first | exact HB.out | apply below_alloc | apply pw_below_drewN | apply below_drew1 | refine below_set ?_ GE111.out) | exact HB.out)⟩
  · rw [if_neg c3] at H
    have c3b0 : (t112 == 0) = false := beq_eq_false_iff_ne.mpr c3
    have c3b1 : (t112 != 0) = true := bne_iff_ne.mpr c3
    replace H := Option.bind_eq_some_iff.mp H
    obtain ⟨t113, A60, H⟩ := H
    replace H : (if t113 = true then ((isa_register.f a0_2 ((Go.bits .and .i64 t112 2) != 0)).bind fun t114 => (if t114 = true then ((isa_register.f a0_3 ((Go.bits .and .i64 t112 4) != 0)).bind fun t115 => (if t115 = true then ((isa_within.f a0_4 t112).bind fun t116 => (if t116 = true then (some 0) else (some 1))) else (some 1))) else (some 1))) else (some 1)) = some r := H
    have A6 := Aside0.mk A60
    clear A60
    by_cases c7 : t113 = true
    · subst c7
      have H1 : ((isa_register.f a0_2 ((Go.bits .and .i64 t112 2) != 0)).bind fun t114 => (if t114 = true then ((isa_register.f a0_3 ((Go.bits .and .i64 t112 4) != 0)).bind fun t115 => (if t115 = true then ((isa_within.f a0_4 t112).bind fun t116 => (if t116 = true then (some 0) else (some 1))) else (some 1))) else (some 1))) = some r := by rw [if_pos rfl] at H; exact H
      clear H
      have H := H1
      clear H1
      replace H := Option.bind_eq_some_iff.mp H
      obtain ⟨t114, A80, H⟩ := H
      replace H : (if t114 = true then ((isa_register.f a0_3 ((Go.bits .and .i64 t112 4) != 0)).bind fun t115 => (if t115 = true then ((isa_within.f a0_4 t112).bind fun t116 => (if t116 = true then (some 0) else (some 1))) else (some 1))) else (some 1)) = some r := H
      have A8 := Aside0.mk A80
      clear A80
      by_cases c9 : t114 = true
      · subst c9
        have H1 : ((isa_register.f a0_3 ((Go.bits .and .i64 t112 4) != 0)).bind fun t115 => (if t115 = true then ((isa_within.f a0_4 t112).bind fun t116 => (if t116 = true then (some 0) else (some 1))) else (some 1))) = some r := by rw [if_pos rfl] at H; exact H
        clear H
        have H := H1
        clear H1
        replace H := Option.bind_eq_some_iff.mp H
        obtain ⟨t115, A100, H⟩ := H
        replace H : (if t115 = true then ((isa_within.f a0_4 t112).bind fun t116 => (if t116 = true then (some 0) else (some 1))) else (some 1)) = some r := H
        have A10 := Aside0.mk A100
        clear A100
        by_cases c11 : t115 = true
        · subst c11
          have H1 : ((isa_within.f a0_4 t112).bind fun t116 => (if t116 = true then (some 0) else (some 1))) = some r := by rw [if_pos rfl] at H; exact H
          clear H
          have H := H1
          clear H1
          replace H := Option.bind_eq_some_iff.mp H
          obtain ⟨t116, A120, H⟩ := H
          replace H : (if t116 = true then (some 0) else (some 1)) = some r := H
          have A12 := Aside0.mk A120
          clear A120
          by_cases c13 : t116 = true
          · subst c13
            have H1 : (some 0) = some r := by rw [if_pos rfl] at H; exact H
            clear H
            have H := H1
            clear H1
            obtain rfl := Option.some.inj H
            go_enter Try.func29, Try.ntmps29
            go_wp2_with (first | ((with_reducible refine gate_dst (N := 1) rfl ?_); refine box_event ?hg (N := 1) ?hd (cs := #[.int .i64 a0_0, .int .i64 a0_1, .int .i64 a0_2, .int .i64 a0_3, .int .i32 a0_4]) (t := 24) ?hr ?_; (case hd => rfl); (case hg => rfl); (case hr => first | (go_simp; done) | (go_simp; rfl)); intro gb111 hg w14 hbox hb; have n0_ := Aside0.mk (below_step (by repeat (first | (with_reducible first | exact HB.out | apply below_alloc | apply pw_below_drewN | apply below_drew1) | exact HB.out)) hb); have n1_ := Aside0.mk (hbox); have n2_ := Aside0.mk ((by rw [hg]; exact (below_size (by repeat (first | (with_reducible first | exact HB.out | apply below_alloc | apply pw_below_drewN | apply below_drew1) | exact HB.out))) : w.heap.size ≤ gb111)); have n3_ := Aside0.mk ((by rw [hg]; exact (below_size (by repeat (first | (with_reducible first | exact HB.out | apply below_alloc | apply pw_below_drewN | apply below_drew1) | exact HB.out))) : w.heap.size ≤ gb111)); clear HB; have HB := n0_; have BK111 := n1_; have GW111 := n2_; have GE111 := n3_; clear n0_ n1_ n2_ n3_; clear hb hbox hg; have hcz15_0 : w14.cell? ⟨gb111, 0, none⟩ = some (.int .i64 a0_0) := (blk_cell BK111.out 0).trans rfl; have hcz15_1 : w14.cell? ⟨gb111, 1, none⟩ = some (.int .i64 a0_1) := (blk_cell BK111.out 1).trans rfl; have hcz15_2 : w14.cell? ⟨gb111, 2, none⟩ = some (.int .i64 a0_2) := (blk_cell BK111.out 2).trans rfl; have hcz15_3 : w14.cell? ⟨gb111, 3, none⟩ = some (.int .i64 a0_3) := (blk_cell BK111.out 3).trans rfl; have hcz15_4 : w14.cell? ⟨gb111, 4, none⟩ = some (.int .i32 a0_4) := (blk_cell BK111.out 4).trans rfl; have hfz15_0 := blk_frozen BK111.out 0; have hfz15_1 := blk_frozen BK111.out 1; have hfz15_2 := blk_frozen BK111.out 2; have hfz15_3 := blk_frozen BK111.out 3; have hfz15_4 := blk_frozen BK111.out 4) | ((with_reducible refine gate_callee (f := 30) rfl ?_); refine goesL_ (some 6) rfl rfl Try.func30 (by kernel_rfl) rfl #[.int .i64 a0_0] rfl (by (try simp only [List.map_toArray, List.map_cons, List.map_nil]); first | done | rfl | (simp only [List.length_drop, List.length_take]; rfl)) ?_; (with_reducible refine (isa_parts.calls k a0_0 t112 _ A2.out).mono ?_); rintro e w' ⟨rfl, ⟨nd, rfl⟩⟩; refine ⟨_, rfl, ?_⟩) | (go_at_call 37; (with_reducible refine (isa_register.calls a0_1 ((Go.bits .and .i64 t112 1) != 0) true _ A6.out).mono ?_); rintro e w' ⟨rfl, ⟨nd, rfl⟩⟩) | (go_at_call 37; (with_reducible refine (isa_register.calls a0_2 ((Go.bits .and .i64 t112 2) != 0) true _ A8.out).mono ?_); rintro e w' ⟨rfl, ⟨nd, rfl⟩⟩) | (go_at_call 37; (with_reducible refine (isa_register.calls a0_3 ((Go.bits .and .i64 t112 4) != 0) true _ A10.out).mono ?_); rintro e w' ⟨rfl, ⟨nd, rfl⟩⟩) | (go_at_call 38; (with_reducible refine (isa_within.calls a0_4 t112 true _ A12.out).mono ?_); rintro e w' ⟨rfl, ⟨nd, rfl⟩⟩))
            go_ret
            exact ⟨by first | rfl | (simp [errW_none, errW_some] <;> rfl) | (simp [*, errW_none, errW_some] <;> rfl), by repeat (first | (with_reducible first | exact HB.out | apply below_alloc | apply pw_below_drewN | apply below_drew1 | refine below_set ?_ GE111.out) | exact HB.out)⟩
          · replace c13 := Bool.eq_false_iff.mpr c13
            subst c13
            have H1 : (some 1) = some r := by rw [if_neg (show ¬ (false = true) by decide)] at H; exact H
            clear H
            have H := H1
            clear H1
            obtain rfl := Option.some.inj H
            go_enter Try.func29, Try.ntmps29
            go_wp2_with (first | ((with_reducible refine gate_dst (N := 1) rfl ?_); refine box_event ?hg (N := 1) ?hd (cs := #[.int .i64 a0_0, .int .i64 a0_1, .int .i64 a0_2, .int .i64 a0_3, .int .i32 a0_4]) (t := 24) ?hr ?_; (case hd => rfl); (case hg => rfl); (case hr => first | (go_simp; done) | (go_simp; rfl)); intro gb111 hg w16 hbox hb; have n0_ := Aside0.mk (below_step (by repeat (first | (with_reducible first | exact HB.out | apply below_alloc | apply pw_below_drewN | apply below_drew1) | exact HB.out)) hb); have n1_ := Aside0.mk (hbox); have n2_ := Aside0.mk ((by rw [hg]; exact (below_size (by repeat (first | (with_reducible first | exact HB.out | apply below_alloc | apply pw_below_drewN | apply below_drew1) | exact HB.out))) : w.heap.size ≤ gb111)); have n3_ := Aside0.mk ((by rw [hg]; exact (below_size (by repeat (first | (with_reducible first | exact HB.out | apply below_alloc | apply pw_below_drewN | apply below_drew1) | exact HB.out))) : w.heap.size ≤ gb111)); clear HB; have HB := n0_; have BK111 := n1_; have GW111 := n2_; have GE111 := n3_; clear n0_ n1_ n2_ n3_; clear hb hbox hg; have hcz17_0 : w16.cell? ⟨gb111, 0, none⟩ = some (.int .i64 a0_0) := (blk_cell BK111.out 0).trans rfl; have hcz17_1 : w16.cell? ⟨gb111, 1, none⟩ = some (.int .i64 a0_1) := (blk_cell BK111.out 1).trans rfl; have hcz17_2 : w16.cell? ⟨gb111, 2, none⟩ = some (.int .i64 a0_2) := (blk_cell BK111.out 2).trans rfl; have hcz17_3 : w16.cell? ⟨gb111, 3, none⟩ = some (.int .i64 a0_3) := (blk_cell BK111.out 3).trans rfl; have hcz17_4 : w16.cell? ⟨gb111, 4, none⟩ = some (.int .i32 a0_4) := (blk_cell BK111.out 4).trans rfl; have hfz17_0 := blk_frozen BK111.out 0; have hfz17_1 := blk_frozen BK111.out 1; have hfz17_2 := blk_frozen BK111.out 2; have hfz17_3 := blk_frozen BK111.out 3; have hfz17_4 := blk_frozen BK111.out 4) | ((with_reducible refine gate_callee (f := 30) rfl ?_); refine goesL_ (some 6) rfl rfl Try.func30 (by kernel_rfl) rfl #[.int .i64 a0_0] rfl (by (try simp only [List.map_toArray, List.map_cons, List.map_nil]); first | done | rfl | (simp only [List.length_drop, List.length_take]; rfl)) ?_; (with_reducible refine (isa_parts.calls k a0_0 t112 _ A2.out).mono ?_); rintro e w' ⟨rfl, ⟨nd, rfl⟩⟩; refine ⟨_, rfl, ?_⟩) | (go_at_call 37; (with_reducible refine (isa_register.calls a0_1 ((Go.bits .and .i64 t112 1) != 0) true _ A6.out).mono ?_); rintro e w' ⟨rfl, ⟨nd, rfl⟩⟩) | (go_at_call 37; (with_reducible refine (isa_register.calls a0_2 ((Go.bits .and .i64 t112 2) != 0) true _ A8.out).mono ?_); rintro e w' ⟨rfl, ⟨nd, rfl⟩⟩) | (go_at_call 37; (with_reducible refine (isa_register.calls a0_3 ((Go.bits .and .i64 t112 4) != 0) true _ A10.out).mono ?_); rintro e w' ⟨rfl, ⟨nd, rfl⟩⟩) | (go_at_call 38; (with_reducible refine (isa_within.calls a0_4 t112 false _ A12.out).mono ?_); rintro e w' ⟨rfl, ⟨nd, rfl⟩⟩))
            go_ret
            exact ⟨by first | rfl | (simp [errW_none, errW_some] <;> rfl) | (simp [*, errW_none, errW_some] <;> rfl), by repeat (first | (with_reducible first | exact HB.out | apply below_alloc | apply pw_below_drewN | apply below_drew1 | refine below_set ?_ GE111.out) | exact HB.out)⟩
        · replace c11 := Bool.eq_false_iff.mpr c11
          subst c11
          have H1 : (some 1) = some r := by rw [if_neg (show ¬ (false = true) by decide)] at H; exact H
          clear H
          have H := H1
          clear H1
          obtain rfl := Option.some.inj H
          go_enter Try.func29, Try.ntmps29
          go_wp2_with (first | ((with_reducible refine gate_dst (N := 1) rfl ?_); refine box_event ?hg (N := 1) ?hd (cs := #[.int .i64 a0_0, .int .i64 a0_1, .int .i64 a0_2, .int .i64 a0_3, .int .i32 a0_4]) (t := 24) ?hr ?_; (case hd => rfl); (case hg => rfl); (case hr => first | (go_simp; done) | (go_simp; rfl)); intro gb111 hg w18 hbox hb; have n0_ := Aside0.mk (below_step (by repeat (first | (with_reducible first | exact HB.out | apply below_alloc | apply pw_below_drewN | apply below_drew1) | exact HB.out)) hb); have n1_ := Aside0.mk (hbox); have n2_ := Aside0.mk ((by rw [hg]; exact (below_size (by repeat (first | (with_reducible first | exact HB.out | apply below_alloc | apply pw_below_drewN | apply below_drew1) | exact HB.out))) : w.heap.size ≤ gb111)); have n3_ := Aside0.mk ((by rw [hg]; exact (below_size (by repeat (first | (with_reducible first | exact HB.out | apply below_alloc | apply pw_below_drewN | apply below_drew1) | exact HB.out))) : w.heap.size ≤ gb111)); clear HB; have HB := n0_; have BK111 := n1_; have GW111 := n2_; have GE111 := n3_; clear n0_ n1_ n2_ n3_; clear hb hbox hg; have hcz19_0 : w18.cell? ⟨gb111, 0, none⟩ = some (.int .i64 a0_0) := (blk_cell BK111.out 0).trans rfl; have hcz19_1 : w18.cell? ⟨gb111, 1, none⟩ = some (.int .i64 a0_1) := (blk_cell BK111.out 1).trans rfl; have hcz19_2 : w18.cell? ⟨gb111, 2, none⟩ = some (.int .i64 a0_2) := (blk_cell BK111.out 2).trans rfl; have hcz19_3 : w18.cell? ⟨gb111, 3, none⟩ = some (.int .i64 a0_3) := (blk_cell BK111.out 3).trans rfl; have hcz19_4 : w18.cell? ⟨gb111, 4, none⟩ = some (.int .i32 a0_4) := (blk_cell BK111.out 4).trans rfl; have hfz19_0 := blk_frozen BK111.out 0; have hfz19_1 := blk_frozen BK111.out 1; have hfz19_2 := blk_frozen BK111.out 2; have hfz19_3 := blk_frozen BK111.out 3; have hfz19_4 := blk_frozen BK111.out 4) | ((with_reducible refine gate_callee (f := 30) rfl ?_); refine goesL_ (some 6) rfl rfl Try.func30 (by kernel_rfl) rfl #[.int .i64 a0_0] rfl (by (try simp only [List.map_toArray, List.map_cons, List.map_nil]); first | done | rfl | (simp only [List.length_drop, List.length_take]; rfl)) ?_; (with_reducible refine (isa_parts.calls k a0_0 t112 _ A2.out).mono ?_); rintro e w' ⟨rfl, ⟨nd, rfl⟩⟩; refine ⟨_, rfl, ?_⟩) | (go_at_call 37; (with_reducible refine (isa_register.calls a0_1 ((Go.bits .and .i64 t112 1) != 0) true _ A6.out).mono ?_); rintro e w' ⟨rfl, ⟨nd, rfl⟩⟩) | (go_at_call 37; (with_reducible refine (isa_register.calls a0_2 ((Go.bits .and .i64 t112 2) != 0) true _ A8.out).mono ?_); rintro e w' ⟨rfl, ⟨nd, rfl⟩⟩) | (go_at_call 37; (with_reducible refine (isa_register.calls a0_3 ((Go.bits .and .i64 t112 4) != 0) false _ A10.out).mono ?_); rintro e w' ⟨rfl, ⟨nd, rfl⟩⟩))
          go_ret
          exact ⟨by first | rfl | (simp [errW_none, errW_some] <;> rfl) | (simp [*, errW_none, errW_some] <;> rfl), by repeat (first | (with_reducible first | exact HB.out | apply below_alloc | apply pw_below_drewN | apply below_drew1 | refine below_set ?_ GE111.out) | exact HB.out)⟩
      · replace c9 := Bool.eq_false_iff.mpr c9
        subst c9
        have H1 : (some 1) = some r := by rw [if_neg (show ¬ (false = true) by decide)] at H; exact H
        clear H
        have H := H1
        clear H1
        obtain rfl := Option.some.inj H
        go_enter Try.func29, Try.ntmps29
        go_wp2_with (first | ((with_reducible refine gate_dst (N := 1) rfl ?_); refine box_event ?hg (N := 1) ?hd (cs := #[.int .i64 a0_0, .int .i64 a0_1, .int .i64 a0_2, .int .i64 a0_3, .int .i32 a0_4]) (t := 24) ?hr ?_; (case hd => rfl); (case hg => rfl); (case hr => first | (go_simp; done) | (go_simp; rfl)); intro gb111 hg w20 hbox hb; have n0_ := Aside0.mk (below_step (by repeat (first | (with_reducible first | exact HB.out | apply below_alloc | apply pw_below_drewN | apply below_drew1) | exact HB.out)) hb); have n1_ := Aside0.mk (hbox); have n2_ := Aside0.mk ((by rw [hg]; exact (below_size (by repeat (first | (with_reducible first | exact HB.out | apply below_alloc | apply pw_below_drewN | apply below_drew1) | exact HB.out))) : w.heap.size ≤ gb111)); have n3_ := Aside0.mk ((by rw [hg]; exact (below_size (by repeat (first | (with_reducible first | exact HB.out | apply below_alloc | apply pw_below_drewN | apply below_drew1) | exact HB.out))) : w.heap.size ≤ gb111)); clear HB; have HB := n0_; have BK111 := n1_; have GW111 := n2_; have GE111 := n3_; clear n0_ n1_ n2_ n3_; clear hb hbox hg; have hcz21_0 : w20.cell? ⟨gb111, 0, none⟩ = some (.int .i64 a0_0) := (blk_cell BK111.out 0).trans rfl; have hcz21_1 : w20.cell? ⟨gb111, 1, none⟩ = some (.int .i64 a0_1) := (blk_cell BK111.out 1).trans rfl; have hcz21_2 : w20.cell? ⟨gb111, 2, none⟩ = some (.int .i64 a0_2) := (blk_cell BK111.out 2).trans rfl; have hcz21_3 : w20.cell? ⟨gb111, 3, none⟩ = some (.int .i64 a0_3) := (blk_cell BK111.out 3).trans rfl; have hcz21_4 : w20.cell? ⟨gb111, 4, none⟩ = some (.int .i32 a0_4) := (blk_cell BK111.out 4).trans rfl; have hfz21_0 := blk_frozen BK111.out 0; have hfz21_1 := blk_frozen BK111.out 1; have hfz21_2 := blk_frozen BK111.out 2; have hfz21_3 := blk_frozen BK111.out 3; have hfz21_4 := blk_frozen BK111.out 4) | ((with_reducible refine gate_callee (f := 30) rfl ?_); refine goesL_ (some 6) rfl rfl Try.func30 (by kernel_rfl) rfl #[.int .i64 a0_0] rfl (by (try simp only [List.map_toArray, List.map_cons, List.map_nil]); first | done | rfl | (simp only [List.length_drop, List.length_take]; rfl)) ?_; (with_reducible refine (isa_parts.calls k a0_0 t112 _ A2.out).mono ?_); rintro e w' ⟨rfl, ⟨nd, rfl⟩⟩; refine ⟨_, rfl, ?_⟩) | (go_at_call 37; (with_reducible refine (isa_register.calls a0_1 ((Go.bits .and .i64 t112 1) != 0) true _ A6.out).mono ?_); rintro e w' ⟨rfl, ⟨nd, rfl⟩⟩) | (go_at_call 37; (with_reducible refine (isa_register.calls a0_2 ((Go.bits .and .i64 t112 2) != 0) false _ A8.out).mono ?_); rintro e w' ⟨rfl, ⟨nd, rfl⟩⟩))
        go_ret
        exact ⟨by first | rfl | (simp [errW_none, errW_some] <;> rfl) | (simp [*, errW_none, errW_some] <;> rfl), by repeat (first | (with_reducible first | exact HB.out | apply below_alloc | apply pw_below_drewN | apply below_drew1 | refine below_set ?_ GE111.out) | exact HB.out)⟩
    · replace c7 := Bool.eq_false_iff.mpr c7
      subst c7
      have H1 : (some 1) = some r := by rw [if_neg (show ¬ (false = true) by decide)] at H; exact H
      clear H
      have H := H1
      clear H1
      obtain rfl := Option.some.inj H
      go_enter Try.func29, Try.ntmps29
      go_wp2_with (first | ((with_reducible refine gate_dst (N := 1) rfl ?_); refine box_event ?hg (N := 1) ?hd (cs := #[.int .i64 a0_0, .int .i64 a0_1, .int .i64 a0_2, .int .i64 a0_3, .int .i32 a0_4]) (t := 24) ?hr ?_; (case hd => rfl); (case hg => rfl); (case hr => first | (go_simp; done) | (go_simp; rfl)); intro gb111 hg w22 hbox hb; have n0_ := Aside0.mk (below_step (by repeat (first | (with_reducible first | exact HB.out | apply below_alloc | apply pw_below_drewN | apply below_drew1) | exact HB.out)) hb); have n1_ := Aside0.mk (hbox); have n2_ := Aside0.mk ((by rw [hg]; exact (below_size (by repeat (first | (with_reducible first | exact HB.out | apply below_alloc | apply pw_below_drewN | apply below_drew1) | exact HB.out))) : w.heap.size ≤ gb111)); have n3_ := Aside0.mk ((by rw [hg]; exact (below_size (by repeat (first | (with_reducible first | exact HB.out | apply below_alloc | apply pw_below_drewN | apply below_drew1) | exact HB.out))) : w.heap.size ≤ gb111)); clear HB; have HB := n0_; have BK111 := n1_; have GW111 := n2_; have GE111 := n3_; clear n0_ n1_ n2_ n3_; clear hb hbox hg; have hcz23_0 : w22.cell? ⟨gb111, 0, none⟩ = some (.int .i64 a0_0) := (blk_cell BK111.out 0).trans rfl; have hcz23_1 : w22.cell? ⟨gb111, 1, none⟩ = some (.int .i64 a0_1) := (blk_cell BK111.out 1).trans rfl; have hcz23_2 : w22.cell? ⟨gb111, 2, none⟩ = some (.int .i64 a0_2) := (blk_cell BK111.out 2).trans rfl; have hcz23_3 : w22.cell? ⟨gb111, 3, none⟩ = some (.int .i64 a0_3) := (blk_cell BK111.out 3).trans rfl; have hcz23_4 : w22.cell? ⟨gb111, 4, none⟩ = some (.int .i32 a0_4) := (blk_cell BK111.out 4).trans rfl; have hfz23_0 := blk_frozen BK111.out 0; have hfz23_1 := blk_frozen BK111.out 1; have hfz23_2 := blk_frozen BK111.out 2; have hfz23_3 := blk_frozen BK111.out 3; have hfz23_4 := blk_frozen BK111.out 4) | ((with_reducible refine gate_callee (f := 30) rfl ?_); refine goesL_ (some 6) rfl rfl Try.func30 (by kernel_rfl) rfl #[.int .i64 a0_0] rfl (by (try simp only [List.map_toArray, List.map_cons, List.map_nil]); first | done | rfl | (simp only [List.length_drop, List.length_take]; rfl)) ?_; (with_reducible refine (isa_parts.calls k a0_0 t112 _ A2.out).mono ?_); rintro e w' ⟨rfl, ⟨nd, rfl⟩⟩; refine ⟨_, rfl, ?_⟩) | (go_at_call 37; (with_reducible refine (isa_register.calls a0_1 ((Go.bits .and .i64 t112 1) != 0) false _ A6.out).mono ?_); rintro e w' ⟨rfl, ⟨nd, rfl⟩⟩))
      go_ret
      exact ⟨by first | rfl | (simp [errW_none, errW_some] <;> rfl) | (simp [*, errW_none, errW_some] <;> rfl), by repeat (first | (with_reducible first | exact HB.out | apply below_alloc | apply pw_below_drewN | apply below_drew1 | refine below_set ?_ GE111.out) | exact HB.out)⟩
def asm_branches.f (a0 : Int) : Option (Bool) := if a0 = 39 then (some true) else (if a0 = 40 then (some true) else (if a0 = 41 then (some true) else (some (a0 == 42))))
set_option maxHeartbeats 8000000 in
set_option maxRecDepth 100000 in
theorem asm_branches.calls (a0 : Int) (r : Bool) (w : World) (h : asm_branches.f a0 = some r) :
    Calls Try.prog 33 #[.int .i64 a0] w fun e w' => e = .returned (.bool r) ∧ Drawn0 w w' := by
  have H : (if a0 = 39 then (some true) else (if a0 = 40 then (some true) else (if a0 = 41 then (some true) else (some (a0 == 42))))) = some r := h
  clear h
  by_cases c2 : a0 = 39
  · rw [if_pos c2] at H
    have c2b0 : (a0 == 39) = true := beq_iff_eq.mpr c2
    have c2b1 : (a0 != 39) = false := bne_eq_false_iff_eq.mpr c2
    clear c2
    obtain rfl := Option.some.inj H
    go_enter Try.func33, Try.ntmps33
    go_wp2
    go_ret
    exact ⟨by first | rfl | (simp; done) | (simp [*]; done), by repeat (first | exact Drawn0.refl _ | apply Drawn0.step)⟩
  · rw [if_neg c2] at H
    have c2b0 : (a0 == 39) = false := beq_eq_false_iff_ne.mpr c2
    have c2b1 : (a0 != 39) = true := bne_iff_ne.mpr c2
    by_cases c3 : a0 = 40
    · rw [if_pos c3] at H
      have c3b0 : (a0 == 40) = true := beq_iff_eq.mpr c3
      have c3b1 : (a0 != 40) = false := bne_eq_false_iff_eq.mpr c3
      clear c3
      obtain rfl := Option.some.inj H
      go_enter Try.func33, Try.ntmps33
      go_wp2
      go_ret
      exact ⟨by first | rfl | (simp; done) | (simp [*]; done), by repeat (first | exact Drawn0.refl _ | apply Drawn0.step)⟩
    · rw [if_neg c3] at H
      have c3b0 : (a0 == 40) = false := beq_eq_false_iff_ne.mpr c3
      have c3b1 : (a0 != 40) = true := bne_iff_ne.mpr c3
      by_cases c4 : a0 = 41
      · rw [if_pos c4] at H
        have c4b0 : (a0 == 41) = true := beq_iff_eq.mpr c4
        have c4b1 : (a0 != 41) = false := bne_eq_false_iff_eq.mpr c4
        clear c4
        obtain rfl := Option.some.inj H
        go_enter Try.func33, Try.ntmps33
        go_wp2
        go_ret
        exact ⟨by first | rfl | (simp; done) | (simp [*]; done), by repeat (first | exact Drawn0.refl _ | apply Drawn0.step)⟩
      · rw [if_neg c4] at H
        have c4b0 : (a0 == 41) = false := beq_eq_false_iff_ne.mpr c4
        have c4b1 : (a0 != 41) = true := bne_iff_ne.mpr c4
        obtain rfl := Option.some.inj H
        go_enter Try.func33, Try.ntmps33
        go_wp2
        go_ret
        exact ⟨by first | rfl | (simp; done) | (simp [*]; done), by repeat (first | exact Drawn0.refl _ | apply Drawn0.step)⟩
def asm_may.f (k : Nat) (a0_0 : Int) (a0_1 : Int) (a0_2 : Int) (a0_3 : Int) (a0_4 : Int) (a0_5 : Int) (a0_6 : Int) : Option (Bool) := if a0_0 = 0 then (if a0_6 = 0 then ((isa_Check.f k a0_1 a0_2 a0_3 a0_4 a0_5).bind fun t118 => (some (t118 == 0))) else (if a0_6 < 0 then (some false) else (if a0_5 = 0 then ((asm_branches.f a0_1).bind fun t119 => (if t119 = true then ((isa_Check.f k a0_1 a0_2 a0_3 a0_4 a0_5).bind fun t120 => (some (t120 == 0))) else (some false))) else (some false)))) else (if a0_0 > 0 then (if a0_6 = 0 then (some (a0_1 == 0 && (a0_2 == 0 && (a0_3 == 0 && (a0_4 == 0 && (a0_5 == 0)))))) else (some false)) else (some false))
set_option maxHeartbeats 8000000 in
set_option maxRecDepth 100000 in
theorem asm_may.calls (k : Nat) (a0_0 : Int) (a0_1 : Int) (a0_2 : Int) (a0_3 : Int) (a0_4 : Int) (a0_5 : Int) (a0_6 : Int) (r : Bool) (w : World) (h : asm_may.f k a0_0 a0_1 a0_2 a0_3 a0_4 a0_5 a0_6 = some r) :
    Calls Try.prog 23 #[.agg #[.int .i64 a0_0, .int .i64 a0_1, .int .i64 a0_2, .int .i64 a0_3, .int .i64 a0_4, .int .i32 a0_5, .int .i64 a0_6]] w fun e w' => e = .returned (.bool r) ∧ Below w.heap.size w w' := by
  have hu37 := Try.underlying37
  have hu24 := Try.underlying24
  have HB := Aside0.mk (Below.refl w.heap.size w)
  have H : (if a0_0 = 0 then (if a0_6 = 0 then ((isa_Check.f k a0_1 a0_2 a0_3 a0_4 a0_5).bind fun t118 => (some (t118 == 0))) else (if a0_6 < 0 then (some false) else (if a0_5 = 0 then ((asm_branches.f a0_1).bind fun t119 => (if t119 = true then ((isa_Check.f k a0_1 a0_2 a0_3 a0_4 a0_5).bind fun t120 => (some (t120 == 0))) else (some false))) else (some false)))) else (if a0_0 > 0 then (if a0_6 = 0 then (some (a0_1 == 0 && (a0_2 == 0 && (a0_3 == 0 && (a0_4 == 0 && (a0_5 == 0)))))) else (some false)) else (some false))) = some r := h
  clear h
  by_cases c2 : a0_0 = 0
  · rw [if_pos c2] at H
    have c2b0 : (a0_0 == 0) = true := beq_iff_eq.mpr c2
    have c2b1 : (a0_0 != 0) = false := bne_eq_false_iff_eq.mpr c2
    clear c2
    by_cases c3 : a0_6 = 0
    · rw [if_pos c3] at H
      have c3b0 : (a0_6 == 0) = true := beq_iff_eq.mpr c3
      have c3b1 : (a0_6 != 0) = false := bne_eq_false_iff_eq.mpr c3
      clear c3
      replace H := Option.bind_eq_some_iff.mp H
      obtain ⟨t118, A40, H⟩ := H
      replace H : (some (t118 == 0)) = some r := H
      have A4 := Aside0.mk A40
      clear A40
      obtain rfl := Option.some.inj H
      go_enter Try.func23, Try.ntmps23
      go_wp2_with (first | ((with_reducible refine gate_dst (N := 1) rfl ?_); refine box_event ?hg (N := 1) ?hd (cs := #[.int .i64 a0_0, .int .i64 a0_1, .int .i64 a0_2, .int .i64 a0_3, .int .i64 a0_4, .int .i32 a0_5, .int .i64 a0_6]) (t := 37) ?hr ?_; (case hd => rfl); (case hg => rfl); (case hr => first | (go_simp; done) | (go_simp; rfl)); intro gb117 hg w5 hbox hb; have n0_ := Aside0.mk (below_step (by repeat (first | (with_reducible first | exact HB.out | apply below_alloc | apply pw_below_drewN | apply below_drew1) | exact HB.out)) hb); have n1_ := Aside0.mk (hbox); have n2_ := Aside0.mk ((by rw [hg]; exact (below_size (by repeat (first | (with_reducible first | exact HB.out | apply below_alloc | apply pw_below_drewN | apply below_drew1) | exact HB.out))) : w.heap.size ≤ gb117)); have n3_ := Aside0.mk ((by rw [hg]; exact (below_size (by repeat (first | (with_reducible first | exact HB.out | apply below_alloc | apply pw_below_drewN | apply below_drew1) | exact HB.out))) : w.heap.size ≤ gb117)); clear HB; have HB := n0_; have BK117 := n1_; have GW117 := n2_; have GE117 := n3_; clear n0_ n1_ n2_ n3_; clear hb hbox hg; have hcz6_0 : w5.cell? ⟨gb117, 0, none⟩ = some (.int .i64 a0_0) := (blk_cell BK117.out 0).trans rfl; have hcz6_1 : w5.cell? ⟨gb117, 1, none⟩ = some (.int .i64 a0_1) := (blk_cell BK117.out 1).trans rfl; have hcz6_2 : w5.cell? ⟨gb117, 2, none⟩ = some (.int .i64 a0_2) := (blk_cell BK117.out 2).trans rfl; have hcz6_3 : w5.cell? ⟨gb117, 3, none⟩ = some (.int .i64 a0_3) := (blk_cell BK117.out 3).trans rfl; have hcz6_4 : w5.cell? ⟨gb117, 4, none⟩ = some (.int .i64 a0_4) := (blk_cell BK117.out 4).trans rfl; have hcz6_5 : w5.cell? ⟨gb117, 5, none⟩ = some (.int .i32 a0_5) := (blk_cell BK117.out 5).trans rfl; have hcz6_6 : w5.cell? ⟨gb117, 6, none⟩ = some (.int .i64 a0_6) := (blk_cell BK117.out 6).trans rfl; have hfz6_0 := blk_frozen BK117.out 0; have hfz6_1 := blk_frozen BK117.out 1; have hfz6_2 := blk_frozen BK117.out 2; have hfz6_3 := blk_frozen BK117.out 3; have hfz6_4 := blk_frozen BK117.out 4; have hfz6_5 := blk_frozen BK117.out 5; have hfz6_6 := blk_frozen BK117.out 6) | ((with_reducible refine gate_callee (f := 29) rfl ?_); refine goesL_ (some 45) rfl rfl Try.func29 (by kernel_rfl) rfl #[.agg #[.int .i64 a0_1, .int .i64 a0_2, .int .i64 a0_3, .int .i64 a0_4, .int .i32 a0_5]] rfl (by (try simp only [List.map_toArray, List.map_cons, List.map_nil]); first | done | rfl | (simp only [List.length_drop, List.length_take]; rfl)) ?_; (with_reducible refine (isa_Check.calls k a0_1 a0_2 a0_3 a0_4 a0_5 t118 _ A4.out).mono ?_); rintro e w7 ⟨rfl, hb⟩; refine ⟨_, rfl, ?_⟩; have n0_ := Aside0.mk (blk_below (g := gb117) (o := .cells #[.int .i64 a0_0, .int .i64 a0_1, .int .i64 a0_2, .int .i64 a0_3, .int .i64 a0_4, .int .i32 a0_5, .int .i64 a0_6] 37 (0, 0)) (by (with_reducible repeat (first | refine blk_drewN ?_ _ | refine blk_drew ?_ | refine blk_alloc ?_ _)); exact BK117.out) hb); have n1_ := Aside0.mk (below_step (by repeat (first | (with_reducible first | exact HB.out | apply below_alloc | apply pw_below_drewN | apply below_drew1 | refine below_set ?_ GE117.out) | exact HB.out)) hb); clear BK117; clear HB; have BK117 := n0_; have HB := n1_; clear n0_ n1_; (try clear hb); (try clear hb2); (try clear hk); (try clear hi)))
      go_ret
      exact ⟨by first | rfl | (simp [errW_none, errW_some] <;> rfl) | (simp [*, errW_none, errW_some] <;> rfl), by repeat (first | (with_reducible first | exact HB.out | apply below_alloc | apply pw_below_drewN | apply below_drew1 | refine below_set ?_ GE117.out) | exact HB.out)⟩
    · rw [if_neg c3] at H
      have c3b0 : (a0_6 == 0) = false := beq_eq_false_iff_ne.mpr c3
      have c3b1 : (a0_6 != 0) = true := bne_iff_ne.mpr c3
      by_cases c8 : a0_6 < 0
      · rw [if_pos c8] at H
        have c8b0 : decide (a0_6 < 0) = true := decide_eq_true c8
        clear c8
        obtain rfl := Option.some.inj H
        go_enter Try.func23, Try.ntmps23
        go_wp2_with (first | ((with_reducible refine gate_dst (N := 1) rfl ?_); refine box_event ?hg (N := 1) ?hd (cs := #[.int .i64 a0_0, .int .i64 a0_1, .int .i64 a0_2, .int .i64 a0_3, .int .i64 a0_4, .int .i32 a0_5, .int .i64 a0_6]) (t := 37) ?hr ?_; (case hd => rfl); (case hg => rfl); (case hr => first | (go_simp; done) | (go_simp; rfl)); intro gb117 hg w9 hbox hb; have n0_ := Aside0.mk (below_step (by repeat (first | (with_reducible first | exact HB.out | apply below_alloc | apply pw_below_drewN | apply below_drew1) | exact HB.out)) hb); have n1_ := Aside0.mk (hbox); have n2_ := Aside0.mk ((by rw [hg]; exact (below_size (by repeat (first | (with_reducible first | exact HB.out | apply below_alloc | apply pw_below_drewN | apply below_drew1) | exact HB.out))) : w.heap.size ≤ gb117)); have n3_ := Aside0.mk ((by rw [hg]; exact (below_size (by repeat (first | (with_reducible first | exact HB.out | apply below_alloc | apply pw_below_drewN | apply below_drew1) | exact HB.out))) : w.heap.size ≤ gb117)); clear HB; have HB := n0_; have BK117 := n1_; have GW117 := n2_; have GE117 := n3_; clear n0_ n1_ n2_ n3_; clear hb hbox hg; have hcz10_0 : w9.cell? ⟨gb117, 0, none⟩ = some (.int .i64 a0_0) := (blk_cell BK117.out 0).trans rfl; have hcz10_1 : w9.cell? ⟨gb117, 1, none⟩ = some (.int .i64 a0_1) := (blk_cell BK117.out 1).trans rfl; have hcz10_2 : w9.cell? ⟨gb117, 2, none⟩ = some (.int .i64 a0_2) := (blk_cell BK117.out 2).trans rfl; have hcz10_3 : w9.cell? ⟨gb117, 3, none⟩ = some (.int .i64 a0_3) := (blk_cell BK117.out 3).trans rfl; have hcz10_4 : w9.cell? ⟨gb117, 4, none⟩ = some (.int .i64 a0_4) := (blk_cell BK117.out 4).trans rfl; have hcz10_5 : w9.cell? ⟨gb117, 5, none⟩ = some (.int .i32 a0_5) := (blk_cell BK117.out 5).trans rfl; have hcz10_6 : w9.cell? ⟨gb117, 6, none⟩ = some (.int .i64 a0_6) := (blk_cell BK117.out 6).trans rfl; have hfz10_0 := blk_frozen BK117.out 0; have hfz10_1 := blk_frozen BK117.out 1; have hfz10_2 := blk_frozen BK117.out 2; have hfz10_3 := blk_frozen BK117.out 3; have hfz10_4 := blk_frozen BK117.out 4; have hfz10_5 := blk_frozen BK117.out 5; have hfz10_6 := blk_frozen BK117.out 6))
        go_ret
        exact ⟨by first | rfl | (simp [errW_none, errW_some] <;> rfl) | (simp [*, errW_none, errW_some] <;> rfl), by repeat (first | (with_reducible first | exact HB.out | apply below_alloc | apply pw_below_drewN | apply below_drew1 | refine below_set ?_ GE117.out) | exact HB.out)⟩
      · rw [if_neg c8] at H
        have c8b0 : decide (a0_6 < 0) = false := decide_eq_false c8
        clear c8
        by_cases c11 : a0_5 = 0
        · rw [if_pos c11] at H
          have c11b0 : (a0_5 == 0) = true := beq_iff_eq.mpr c11
          have c11b1 : (a0_5 != 0) = false := bne_eq_false_iff_eq.mpr c11
          clear c11
          replace H := Option.bind_eq_some_iff.mp H
          obtain ⟨t119, A120, H⟩ := H
          replace H : (if t119 = true then ((isa_Check.f k a0_1 a0_2 a0_3 a0_4 a0_5).bind fun t120 => (some (t120 == 0))) else (some false)) = some r := H
          have A12 := Aside0.mk A120
          clear A120
          by_cases c13 : t119 = true
          · subst c13
            have H1 : ((isa_Check.f k a0_1 a0_2 a0_3 a0_4 a0_5).bind fun t120 => (some (t120 == 0))) = some r := by rw [if_pos rfl] at H; exact H
            clear H
            have H := H1
            clear H1
            replace H := Option.bind_eq_some_iff.mp H
            obtain ⟨t120, A140, H⟩ := H
            replace H : (some (t120 == 0)) = some r := H
            have A14 := Aside0.mk A140
            clear A140
            obtain rfl := Option.some.inj H
            go_enter Try.func23, Try.ntmps23
            go_wp2_with (first | ((with_reducible refine gate_dst (N := 1) rfl ?_); refine box_event ?hg (N := 1) ?hd (cs := #[.int .i64 a0_0, .int .i64 a0_1, .int .i64 a0_2, .int .i64 a0_3, .int .i64 a0_4, .int .i32 a0_5, .int .i64 a0_6]) (t := 37) ?hr ?_; (case hd => rfl); (case hg => rfl); (case hr => first | (go_simp; done) | (go_simp; rfl)); intro gb117 hg w15 hbox hb; have n0_ := Aside0.mk (below_step (by repeat (first | (with_reducible first | exact HB.out | apply below_alloc | apply pw_below_drewN | apply below_drew1) | exact HB.out)) hb); have n1_ := Aside0.mk (hbox); have n2_ := Aside0.mk ((by rw [hg]; exact (below_size (by repeat (first | (with_reducible first | exact HB.out | apply below_alloc | apply pw_below_drewN | apply below_drew1) | exact HB.out))) : w.heap.size ≤ gb117)); have n3_ := Aside0.mk ((by rw [hg]; exact (below_size (by repeat (first | (with_reducible first | exact HB.out | apply below_alloc | apply pw_below_drewN | apply below_drew1) | exact HB.out))) : w.heap.size ≤ gb117)); clear HB; have HB := n0_; have BK117 := n1_; have GW117 := n2_; have GE117 := n3_; clear n0_ n1_ n2_ n3_; clear hb hbox hg; have hcz16_0 : w15.cell? ⟨gb117, 0, none⟩ = some (.int .i64 a0_0) := (blk_cell BK117.out 0).trans rfl; have hcz16_1 : w15.cell? ⟨gb117, 1, none⟩ = some (.int .i64 a0_1) := (blk_cell BK117.out 1).trans rfl; have hcz16_2 : w15.cell? ⟨gb117, 2, none⟩ = some (.int .i64 a0_2) := (blk_cell BK117.out 2).trans rfl; have hcz16_3 : w15.cell? ⟨gb117, 3, none⟩ = some (.int .i64 a0_3) := (blk_cell BK117.out 3).trans rfl; have hcz16_4 : w15.cell? ⟨gb117, 4, none⟩ = some (.int .i64 a0_4) := (blk_cell BK117.out 4).trans rfl; have hcz16_5 : w15.cell? ⟨gb117, 5, none⟩ = some (.int .i32 a0_5) := (blk_cell BK117.out 5).trans rfl; have hcz16_6 : w15.cell? ⟨gb117, 6, none⟩ = some (.int .i64 a0_6) := (blk_cell BK117.out 6).trans rfl; have hfz16_0 := blk_frozen BK117.out 0; have hfz16_1 := blk_frozen BK117.out 1; have hfz16_2 := blk_frozen BK117.out 2; have hfz16_3 := blk_frozen BK117.out 3; have hfz16_4 := blk_frozen BK117.out 4; have hfz16_5 := blk_frozen BK117.out 5; have hfz16_6 := blk_frozen BK117.out 6) | (go_at_call 33; (with_reducible refine (asm_branches.calls a0_1 true _ A12.out).mono ?_); rintro e w' ⟨rfl, ⟨nd, rfl⟩⟩) | ((with_reducible refine gate_callee (f := 29) rfl ?_); refine goesL_ (some 45) rfl rfl Try.func29 (by kernel_rfl) rfl #[.agg #[.int .i64 a0_1, .int .i64 a0_2, .int .i64 a0_3, .int .i64 a0_4, .int .i32 a0_5]] rfl (by (try simp only [List.map_toArray, List.map_cons, List.map_nil]); first | done | rfl | (simp only [List.length_drop, List.length_take]; rfl)) ?_; (with_reducible refine (isa_Check.calls k a0_1 a0_2 a0_3 a0_4 a0_5 t120 _ A14.out).mono ?_); rintro e w17 ⟨rfl, hb⟩; refine ⟨_, rfl, ?_⟩; have n0_ := Aside0.mk (blk_below (g := gb117) (o := .cells #[.int .i64 a0_0, .int .i64 a0_1, .int .i64 a0_2, .int .i64 a0_3, .int .i64 a0_4, .int .i32 a0_5, .int .i64 a0_6] 37 (0, 0)) (by (with_reducible repeat (first | refine blk_drewN ?_ _ | refine blk_drew ?_ | refine blk_alloc ?_ _)); exact BK117.out) hb); have n1_ := Aside0.mk (below_step (by repeat (first | (with_reducible first | exact HB.out | apply below_alloc | apply pw_below_drewN | apply below_drew1 | refine below_set ?_ GE117.out) | exact HB.out)) hb); clear BK117; clear HB; have BK117 := n0_; have HB := n1_; clear n0_ n1_; (try clear hb); (try clear hb2); (try clear hk); (try clear hi)))
            go_ret
            exact ⟨by first | rfl | (simp [errW_none, errW_some] <;> rfl) | (simp [*, errW_none, errW_some] <;> rfl), by repeat (first | (with_reducible first | exact HB.out | apply below_alloc | apply pw_below_drewN | apply below_drew1 | refine below_set ?_ GE117.out) | exact HB.out)⟩
          · replace c13 := Bool.eq_false_iff.mpr c13
            subst c13
            have H1 : (some false) = some r := by rw [if_neg (show ¬ (false = true) by decide)] at H; exact H
            clear H
            have H := H1
            clear H1
            obtain rfl := Option.some.inj H
            go_enter Try.func23, Try.ntmps23
            go_wp2_with (first | ((with_reducible refine gate_dst (N := 1) rfl ?_); refine box_event ?hg (N := 1) ?hd (cs := #[.int .i64 a0_0, .int .i64 a0_1, .int .i64 a0_2, .int .i64 a0_3, .int .i64 a0_4, .int .i32 a0_5, .int .i64 a0_6]) (t := 37) ?hr ?_; (case hd => rfl); (case hg => rfl); (case hr => first | (go_simp; done) | (go_simp; rfl)); intro gb117 hg w18 hbox hb; have n0_ := Aside0.mk (below_step (by repeat (first | (with_reducible first | exact HB.out | apply below_alloc | apply pw_below_drewN | apply below_drew1) | exact HB.out)) hb); have n1_ := Aside0.mk (hbox); have n2_ := Aside0.mk ((by rw [hg]; exact (below_size (by repeat (first | (with_reducible first | exact HB.out | apply below_alloc | apply pw_below_drewN | apply below_drew1) | exact HB.out))) : w.heap.size ≤ gb117)); have n3_ := Aside0.mk ((by rw [hg]; exact (below_size (by repeat (first | (with_reducible first | exact HB.out | apply below_alloc | apply pw_below_drewN | apply below_drew1) | exact HB.out))) : w.heap.size ≤ gb117)); clear HB; have HB := n0_; have BK117 := n1_; have GW117 := n2_; have GE117 := n3_; clear n0_ n1_ n2_ n3_; clear hb hbox hg; have hcz19_0 : w18.cell? ⟨gb117, 0, none⟩ = some (.int .i64 a0_0) := (blk_cell BK117.out 0).trans rfl; have hcz19_1 : w18.cell? ⟨gb117, 1, none⟩ = some (.int .i64 a0_1) := (blk_cell BK117.out 1).trans rfl; have hcz19_2 : w18.cell? ⟨gb117, 2, none⟩ = some (.int .i64 a0_2) := (blk_cell BK117.out 2).trans rfl; have hcz19_3 : w18.cell? ⟨gb117, 3, none⟩ = some (.int .i64 a0_3) := (blk_cell BK117.out 3).trans rfl; have hcz19_4 : w18.cell? ⟨gb117, 4, none⟩ = some (.int .i64 a0_4) := (blk_cell BK117.out 4).trans rfl; have hcz19_5 : w18.cell? ⟨gb117, 5, none⟩ = some (.int .i32 a0_5) := (blk_cell BK117.out 5).trans rfl; have hcz19_6 : w18.cell? ⟨gb117, 6, none⟩ = some (.int .i64 a0_6) := (blk_cell BK117.out 6).trans rfl; have hfz19_0 := blk_frozen BK117.out 0; have hfz19_1 := blk_frozen BK117.out 1; have hfz19_2 := blk_frozen BK117.out 2; have hfz19_3 := blk_frozen BK117.out 3; have hfz19_4 := blk_frozen BK117.out 4; have hfz19_5 := blk_frozen BK117.out 5; have hfz19_6 := blk_frozen BK117.out 6) | (go_at_call 33; (with_reducible refine (asm_branches.calls a0_1 false _ A12.out).mono ?_); rintro e w' ⟨rfl, ⟨nd, rfl⟩⟩))
            go_ret
            exact ⟨by first | rfl | (simp [errW_none, errW_some] <;> rfl) | (simp [*, errW_none, errW_some] <;> rfl), by repeat (first | (with_reducible first | exact HB.out | apply below_alloc | apply pw_below_drewN | apply below_drew1 | refine below_set ?_ GE117.out) | exact HB.out)⟩
        · rw [if_neg c11] at H
          have c11b0 : (a0_5 == 0) = false := beq_eq_false_iff_ne.mpr c11
          have c11b1 : (a0_5 != 0) = true := bne_iff_ne.mpr c11
          obtain rfl := Option.some.inj H
          go_enter Try.func23, Try.ntmps23
          go_wp2_with (first | ((with_reducible refine gate_dst (N := 1) rfl ?_); refine box_event ?hg (N := 1) ?hd (cs := #[.int .i64 a0_0, .int .i64 a0_1, .int .i64 a0_2, .int .i64 a0_3, .int .i64 a0_4, .int .i32 a0_5, .int .i64 a0_6]) (t := 37) ?hr ?_; (case hd => rfl); (case hg => rfl); (case hr => first | (go_simp; done) | (go_simp; rfl)); intro gb117 hg w20 hbox hb; have n0_ := Aside0.mk (below_step (by repeat (first | (with_reducible first | exact HB.out | apply below_alloc | apply pw_below_drewN | apply below_drew1) | exact HB.out)) hb); have n1_ := Aside0.mk (hbox); have n2_ := Aside0.mk ((by rw [hg]; exact (below_size (by repeat (first | (with_reducible first | exact HB.out | apply below_alloc | apply pw_below_drewN | apply below_drew1) | exact HB.out))) : w.heap.size ≤ gb117)); have n3_ := Aside0.mk ((by rw [hg]; exact (below_size (by repeat (first | (with_reducible first | exact HB.out | apply below_alloc | apply pw_below_drewN | apply below_drew1) | exact HB.out))) : w.heap.size ≤ gb117)); clear HB; have HB := n0_; have BK117 := n1_; have GW117 := n2_; have GE117 := n3_; clear n0_ n1_ n2_ n3_; clear hb hbox hg; have hcz21_0 : w20.cell? ⟨gb117, 0, none⟩ = some (.int .i64 a0_0) := (blk_cell BK117.out 0).trans rfl; have hcz21_1 : w20.cell? ⟨gb117, 1, none⟩ = some (.int .i64 a0_1) := (blk_cell BK117.out 1).trans rfl; have hcz21_2 : w20.cell? ⟨gb117, 2, none⟩ = some (.int .i64 a0_2) := (blk_cell BK117.out 2).trans rfl; have hcz21_3 : w20.cell? ⟨gb117, 3, none⟩ = some (.int .i64 a0_3) := (blk_cell BK117.out 3).trans rfl; have hcz21_4 : w20.cell? ⟨gb117, 4, none⟩ = some (.int .i64 a0_4) := (blk_cell BK117.out 4).trans rfl; have hcz21_5 : w20.cell? ⟨gb117, 5, none⟩ = some (.int .i32 a0_5) := (blk_cell BK117.out 5).trans rfl; have hcz21_6 : w20.cell? ⟨gb117, 6, none⟩ = some (.int .i64 a0_6) := (blk_cell BK117.out 6).trans rfl; have hfz21_0 := blk_frozen BK117.out 0; have hfz21_1 := blk_frozen BK117.out 1; have hfz21_2 := blk_frozen BK117.out 2; have hfz21_3 := blk_frozen BK117.out 3; have hfz21_4 := blk_frozen BK117.out 4; have hfz21_5 := blk_frozen BK117.out 5; have hfz21_6 := blk_frozen BK117.out 6))
          go_ret
          exact ⟨by first | rfl | (simp [errW_none, errW_some] <;> rfl) | (simp [*, errW_none, errW_some] <;> rfl), by repeat (first | (with_reducible first | exact HB.out | apply below_alloc | apply pw_below_drewN | apply below_drew1 | refine below_set ?_ GE117.out) | exact HB.out)⟩
  · rw [if_neg c2] at H
    have c2b0 : (a0_0 == 0) = false := beq_eq_false_iff_ne.mpr c2
    have c2b1 : (a0_0 != 0) = true := bne_iff_ne.mpr c2
    by_cases c22 : a0_0 > 0
    · rw [if_pos c22] at H
      have c22b0 : decide (0 < a0_0) = true := decide_eq_true c22
      clear c22
      by_cases c23 : a0_6 = 0
      · rw [if_pos c23] at H
        have c23b0 : (a0_6 == 0) = true := beq_iff_eq.mpr c23
        have c23b1 : (a0_6 != 0) = false := bne_eq_false_iff_eq.mpr c23
        clear c23
        obtain rfl := Option.some.inj H
        go_enter Try.func23, Try.ntmps23
        go_wp2_with (first | ((with_reducible refine gate_dst (N := 1) rfl ?_); refine box_event ?hg (N := 1) ?hd (cs := #[.int .i64 a0_0, .int .i64 a0_1, .int .i64 a0_2, .int .i64 a0_3, .int .i64 a0_4, .int .i32 a0_5, .int .i64 a0_6]) (t := 37) ?hr ?_; (case hd => rfl); (case hg => rfl); (case hr => first | (go_simp; done) | (go_simp; rfl)); intro gb117 hg w24 hbox hb; have n0_ := Aside0.mk (below_step (by repeat (first | (with_reducible first | exact HB.out | apply below_alloc | apply pw_below_drewN | apply below_drew1) | exact HB.out)) hb); have n1_ := Aside0.mk (hbox); have n2_ := Aside0.mk ((by rw [hg]; exact (below_size (by repeat (first | (with_reducible first | exact HB.out | apply below_alloc | apply pw_below_drewN | apply below_drew1) | exact HB.out))) : w.heap.size ≤ gb117)); have n3_ := Aside0.mk ((by rw [hg]; exact (below_size (by repeat (first | (with_reducible first | exact HB.out | apply below_alloc | apply pw_below_drewN | apply below_drew1) | exact HB.out))) : w.heap.size ≤ gb117)); clear HB; have HB := n0_; have BK117 := n1_; have GW117 := n2_; have GE117 := n3_; clear n0_ n1_ n2_ n3_; clear hb hbox hg; have hcz25_0 : w24.cell? ⟨gb117, 0, none⟩ = some (.int .i64 a0_0) := (blk_cell BK117.out 0).trans rfl; have hcz25_1 : w24.cell? ⟨gb117, 1, none⟩ = some (.int .i64 a0_1) := (blk_cell BK117.out 1).trans rfl; have hcz25_2 : w24.cell? ⟨gb117, 2, none⟩ = some (.int .i64 a0_2) := (blk_cell BK117.out 2).trans rfl; have hcz25_3 : w24.cell? ⟨gb117, 3, none⟩ = some (.int .i64 a0_3) := (blk_cell BK117.out 3).trans rfl; have hcz25_4 : w24.cell? ⟨gb117, 4, none⟩ = some (.int .i64 a0_4) := (blk_cell BK117.out 4).trans rfl; have hcz25_5 : w24.cell? ⟨gb117, 5, none⟩ = some (.int .i32 a0_5) := (blk_cell BK117.out 5).trans rfl; have hcz25_6 : w24.cell? ⟨gb117, 6, none⟩ = some (.int .i64 a0_6) := (blk_cell BK117.out 6).trans rfl; have hfz25_0 := blk_frozen BK117.out 0; have hfz25_1 := blk_frozen BK117.out 1; have hfz25_2 := blk_frozen BK117.out 2; have hfz25_3 := blk_frozen BK117.out 3; have hfz25_4 := blk_frozen BK117.out 4; have hfz25_5 := blk_frozen BK117.out 5; have hfz25_6 := blk_frozen BK117.out 6))
        go_ret
        exact ⟨by first | rfl | (simp [errW_none, errW_some] <;> rfl) | (simp [*, errW_none, errW_some] <;> rfl), by repeat (first | (with_reducible first | exact HB.out | apply below_alloc | apply pw_below_drewN | apply below_drew1 | refine below_set ?_ GE117.out) | exact HB.out)⟩
      · rw [if_neg c23] at H
        have c23b0 : (a0_6 == 0) = false := beq_eq_false_iff_ne.mpr c23
        have c23b1 : (a0_6 != 0) = true := bne_iff_ne.mpr c23
        obtain rfl := Option.some.inj H
        go_enter Try.func23, Try.ntmps23
        go_wp2_with (first | ((with_reducible refine gate_dst (N := 1) rfl ?_); refine box_event ?hg (N := 1) ?hd (cs := #[.int .i64 a0_0, .int .i64 a0_1, .int .i64 a0_2, .int .i64 a0_3, .int .i64 a0_4, .int .i32 a0_5, .int .i64 a0_6]) (t := 37) ?hr ?_; (case hd => rfl); (case hg => rfl); (case hr => first | (go_simp; done) | (go_simp; rfl)); intro gb117 hg w26 hbox hb; have n0_ := Aside0.mk (below_step (by repeat (first | (with_reducible first | exact HB.out | apply below_alloc | apply pw_below_drewN | apply below_drew1) | exact HB.out)) hb); have n1_ := Aside0.mk (hbox); have n2_ := Aside0.mk ((by rw [hg]; exact (below_size (by repeat (first | (with_reducible first | exact HB.out | apply below_alloc | apply pw_below_drewN | apply below_drew1) | exact HB.out))) : w.heap.size ≤ gb117)); have n3_ := Aside0.mk ((by rw [hg]; exact (below_size (by repeat (first | (with_reducible first | exact HB.out | apply below_alloc | apply pw_below_drewN | apply below_drew1) | exact HB.out))) : w.heap.size ≤ gb117)); clear HB; have HB := n0_; have BK117 := n1_; have GW117 := n2_; have GE117 := n3_; clear n0_ n1_ n2_ n3_; clear hb hbox hg; have hcz27_0 : w26.cell? ⟨gb117, 0, none⟩ = some (.int .i64 a0_0) := (blk_cell BK117.out 0).trans rfl; have hcz27_1 : w26.cell? ⟨gb117, 1, none⟩ = some (.int .i64 a0_1) := (blk_cell BK117.out 1).trans rfl; have hcz27_2 : w26.cell? ⟨gb117, 2, none⟩ = some (.int .i64 a0_2) := (blk_cell BK117.out 2).trans rfl; have hcz27_3 : w26.cell? ⟨gb117, 3, none⟩ = some (.int .i64 a0_3) := (blk_cell BK117.out 3).trans rfl; have hcz27_4 : w26.cell? ⟨gb117, 4, none⟩ = some (.int .i64 a0_4) := (blk_cell BK117.out 4).trans rfl; have hcz27_5 : w26.cell? ⟨gb117, 5, none⟩ = some (.int .i32 a0_5) := (blk_cell BK117.out 5).trans rfl; have hcz27_6 : w26.cell? ⟨gb117, 6, none⟩ = some (.int .i64 a0_6) := (blk_cell BK117.out 6).trans rfl; have hfz27_0 := blk_frozen BK117.out 0; have hfz27_1 := blk_frozen BK117.out 1; have hfz27_2 := blk_frozen BK117.out 2; have hfz27_3 := blk_frozen BK117.out 3; have hfz27_4 := blk_frozen BK117.out 4; have hfz27_5 := blk_frozen BK117.out 5; have hfz27_6 := blk_frozen BK117.out 6))
        go_ret
        exact ⟨by first | rfl | (simp [errW_none, errW_some] <;> rfl) | (simp [*, errW_none, errW_some] <;> rfl), by repeat (first | (with_reducible first | exact HB.out | apply below_alloc | apply pw_below_drewN | apply below_drew1 | refine below_set ?_ GE117.out) | exact HB.out)⟩
    · rw [if_neg c22] at H
      have c22b0 : decide (0 < a0_0) = false := decide_eq_false c22
      clear c22
      obtain rfl := Option.some.inj H
      go_enter Try.func23, Try.ntmps23
      go_wp2_with (first | ((with_reducible refine gate_dst (N := 1) rfl ?_); refine box_event ?hg (N := 1) ?hd (cs := #[.int .i64 a0_0, .int .i64 a0_1, .int .i64 a0_2, .int .i64 a0_3, .int .i64 a0_4, .int .i32 a0_5, .int .i64 a0_6]) (t := 37) ?hr ?_; (case hd => rfl); (case hg => rfl); (case hr => first | (go_simp; done) | (go_simp; rfl)); intro gb117 hg w28 hbox hb; have n0_ := Aside0.mk (below_step (by repeat (first | (with_reducible first | exact HB.out | apply below_alloc | apply pw_below_drewN | apply below_drew1) | exact HB.out)) hb); have n1_ := Aside0.mk (hbox); have n2_ := Aside0.mk ((by rw [hg]; exact (below_size (by repeat (first | (with_reducible first | exact HB.out | apply below_alloc | apply pw_below_drewN | apply below_drew1) | exact HB.out))) : w.heap.size ≤ gb117)); have n3_ := Aside0.mk ((by rw [hg]; exact (below_size (by repeat (first | (with_reducible first | exact HB.out | apply below_alloc | apply pw_below_drewN | apply below_drew1) | exact HB.out))) : w.heap.size ≤ gb117)); clear HB; have HB := n0_; have BK117 := n1_; have GW117 := n2_; have GE117 := n3_; clear n0_ n1_ n2_ n3_; clear hb hbox hg; have hcz29_0 : w28.cell? ⟨gb117, 0, none⟩ = some (.int .i64 a0_0) := (blk_cell BK117.out 0).trans rfl; have hcz29_1 : w28.cell? ⟨gb117, 1, none⟩ = some (.int .i64 a0_1) := (blk_cell BK117.out 1).trans rfl; have hcz29_2 : w28.cell? ⟨gb117, 2, none⟩ = some (.int .i64 a0_2) := (blk_cell BK117.out 2).trans rfl; have hcz29_3 : w28.cell? ⟨gb117, 3, none⟩ = some (.int .i64 a0_3) := (blk_cell BK117.out 3).trans rfl; have hcz29_4 : w28.cell? ⟨gb117, 4, none⟩ = some (.int .i64 a0_4) := (blk_cell BK117.out 4).trans rfl; have hcz29_5 : w28.cell? ⟨gb117, 5, none⟩ = some (.int .i32 a0_5) := (blk_cell BK117.out 5).trans rfl; have hcz29_6 : w28.cell? ⟨gb117, 6, none⟩ = some (.int .i64 a0_6) := (blk_cell BK117.out 6).trans rfl; have hfz29_0 := blk_frozen BK117.out 0; have hfz29_1 := blk_frozen BK117.out 1; have hfz29_2 := blk_frozen BK117.out 2; have hfz29_3 := blk_frozen BK117.out 3; have hfz29_4 := blk_frozen BK117.out 4; have hfz29_5 := blk_frozen BK117.out 5; have hfz29_6 := blk_frozen BK117.out 6))
      go_ret
      exact ⟨by first | rfl | (simp [errW_none, errW_some] <;> rfl) | (simp [*, errW_none, errW_some] <;> rfl), by repeat (first | (with_reducible first | exact HB.out | apply below_alloc | apply pw_below_drewN | apply below_drew1 | refine below_set ?_ GE117.out) | exact HB.out)⟩
def asm_size.f (a0_0 : Int) (a0_1 : Int) (a0_2 : Int) (a0_3 : Int) (a0_4 : Int) (a0_5 : Int) (a0_6 : Int) (a1 : Bool) : Option (Int) := if a0_0 > 0 then (some 0) else (if a1 = true then (some 2) else (some 1))
set_option maxHeartbeats 8000000 in
set_option maxRecDepth 100000 in
theorem asm_size.calls (a0_0 : Int) (a0_1 : Int) (a0_2 : Int) (a0_3 : Int) (a0_4 : Int) (a0_5 : Int) (a0_6 : Int) (a1 : Bool) (r : Int) (w : World) (h : asm_size.f a0_0 a0_1 a0_2 a0_3 a0_4 a0_5 a0_6 a1 = some r) :
    Calls Try.prog 36 #[.agg #[.int .i64 a0_0, .int .i64 a0_1, .int .i64 a0_2, .int .i64 a0_3, .int .i64 a0_4, .int .i32 a0_5, .int .i64 a0_6], .bool a1] w fun e w' => e = .returned (.int .i64 r) ∧ Below w.heap.size w w' := by
  have hu37 := Try.underlying37
  have HB := Aside0.mk (Below.refl w.heap.size w)
  have H : (if a0_0 > 0 then (some 0) else (if a1 = true then (some 2) else (some 1))) = some r := h
  clear h
  by_cases c3 : a0_0 > 0
  · rw [if_pos c3] at H
    have c3b0 : decide (0 < a0_0) = true := decide_eq_true c3
    clear c3
    obtain rfl := Option.some.inj H
    go_enter Try.func36, Try.ntmps36
    go_wp2_with (first | ((with_reducible refine gate_dst (N := 2) rfl ?_); refine box_event ?hg (N := 2) ?hd (cs := #[.int .i64 a0_0, .int .i64 a0_1, .int .i64 a0_2, .int .i64 a0_3, .int .i64 a0_4, .int .i32 a0_5, .int .i64 a0_6]) (t := 37) ?hr ?_; (case hd => rfl); (case hg => rfl); (case hr => first | (go_simp; done) | (go_simp; rfl)); intro gb121 hg w4 hbox hb; have n0_ := Aside0.mk (below_step (by repeat (first | (with_reducible first | exact HB.out | apply below_alloc | apply pw_below_drewN | apply below_drew1) | exact HB.out)) hb); have n1_ := Aside0.mk (hbox); have n2_ := Aside0.mk ((by rw [hg]; exact (below_size (by repeat (first | (with_reducible first | exact HB.out | apply below_alloc | apply pw_below_drewN | apply below_drew1) | exact HB.out))) : w.heap.size ≤ gb121)); have n3_ := Aside0.mk ((by rw [hg]; exact (below_size (by repeat (first | (with_reducible first | exact HB.out | apply below_alloc | apply pw_below_drewN | apply below_drew1) | exact HB.out))) : w.heap.size ≤ gb121)); clear HB; have HB := n0_; have BK121 := n1_; have GW121 := n2_; have GE121 := n3_; clear n0_ n1_ n2_ n3_; clear hb hbox hg; have hcz5_0 : w4.cell? ⟨gb121, 0, none⟩ = some (.int .i64 a0_0) := (blk_cell BK121.out 0).trans rfl; have hcz5_1 : w4.cell? ⟨gb121, 1, none⟩ = some (.int .i64 a0_1) := (blk_cell BK121.out 1).trans rfl; have hcz5_2 : w4.cell? ⟨gb121, 2, none⟩ = some (.int .i64 a0_2) := (blk_cell BK121.out 2).trans rfl; have hcz5_3 : w4.cell? ⟨gb121, 3, none⟩ = some (.int .i64 a0_3) := (blk_cell BK121.out 3).trans rfl; have hcz5_4 : w4.cell? ⟨gb121, 4, none⟩ = some (.int .i64 a0_4) := (blk_cell BK121.out 4).trans rfl; have hcz5_5 : w4.cell? ⟨gb121, 5, none⟩ = some (.int .i32 a0_5) := (blk_cell BK121.out 5).trans rfl; have hcz5_6 : w4.cell? ⟨gb121, 6, none⟩ = some (.int .i64 a0_6) := (blk_cell BK121.out 6).trans rfl; have hfz5_0 := blk_frozen BK121.out 0; have hfz5_1 := blk_frozen BK121.out 1; have hfz5_2 := blk_frozen BK121.out 2; have hfz5_3 := blk_frozen BK121.out 3; have hfz5_4 := blk_frozen BK121.out 4; have hfz5_5 := blk_frozen BK121.out 5; have hfz5_6 := blk_frozen BK121.out 6))
    go_ret
    exact ⟨by first | rfl | (simp [errW_none, errW_some] <;> rfl) | (simp [*, errW_none, errW_some] <;> rfl), by repeat (first | (with_reducible first | exact HB.out | apply below_alloc | apply pw_below_drewN | apply below_drew1 | refine below_set ?_ GE121.out) | exact HB.out)⟩
  · rw [if_neg c3] at H
    have c3b0 : decide (0 < a0_0) = false := decide_eq_false c3
    clear c3
    by_cases c6 : a1 = true
    · subst c6
      have H1 : (some 2) = some r := by rw [if_pos rfl] at H; exact H
      clear H
      have H := H1
      clear H1
      obtain rfl := Option.some.inj H
      go_enter Try.func36, Try.ntmps36
      go_wp2_with (first | ((with_reducible refine gate_dst (N := 2) rfl ?_); refine box_event ?hg (N := 2) ?hd (cs := #[.int .i64 a0_0, .int .i64 a0_1, .int .i64 a0_2, .int .i64 a0_3, .int .i64 a0_4, .int .i32 a0_5, .int .i64 a0_6]) (t := 37) ?hr ?_; (case hd => rfl); (case hg => rfl); (case hr => first | (go_simp; done) | (go_simp; rfl)); intro gb121 hg w7 hbox hb; have n0_ := Aside0.mk (below_step (by repeat (first | (with_reducible first | exact HB.out | apply below_alloc | apply pw_below_drewN | apply below_drew1) | exact HB.out)) hb); have n1_ := Aside0.mk (hbox); have n2_ := Aside0.mk ((by rw [hg]; exact (below_size (by repeat (first | (with_reducible first | exact HB.out | apply below_alloc | apply pw_below_drewN | apply below_drew1) | exact HB.out))) : w.heap.size ≤ gb121)); have n3_ := Aside0.mk ((by rw [hg]; exact (below_size (by repeat (first | (with_reducible first | exact HB.out | apply below_alloc | apply pw_below_drewN | apply below_drew1) | exact HB.out))) : w.heap.size ≤ gb121)); clear HB; have HB := n0_; have BK121 := n1_; have GW121 := n2_; have GE121 := n3_; clear n0_ n1_ n2_ n3_; clear hb hbox hg; have hcz8_0 : w7.cell? ⟨gb121, 0, none⟩ = some (.int .i64 a0_0) := (blk_cell BK121.out 0).trans rfl; have hcz8_1 : w7.cell? ⟨gb121, 1, none⟩ = some (.int .i64 a0_1) := (blk_cell BK121.out 1).trans rfl; have hcz8_2 : w7.cell? ⟨gb121, 2, none⟩ = some (.int .i64 a0_2) := (blk_cell BK121.out 2).trans rfl; have hcz8_3 : w7.cell? ⟨gb121, 3, none⟩ = some (.int .i64 a0_3) := (blk_cell BK121.out 3).trans rfl; have hcz8_4 : w7.cell? ⟨gb121, 4, none⟩ = some (.int .i64 a0_4) := (blk_cell BK121.out 4).trans rfl; have hcz8_5 : w7.cell? ⟨gb121, 5, none⟩ = some (.int .i32 a0_5) := (blk_cell BK121.out 5).trans rfl; have hcz8_6 : w7.cell? ⟨gb121, 6, none⟩ = some (.int .i64 a0_6) := (blk_cell BK121.out 6).trans rfl; have hfz8_0 := blk_frozen BK121.out 0; have hfz8_1 := blk_frozen BK121.out 1; have hfz8_2 := blk_frozen BK121.out 2; have hfz8_3 := blk_frozen BK121.out 3; have hfz8_4 := blk_frozen BK121.out 4; have hfz8_5 := blk_frozen BK121.out 5; have hfz8_6 := blk_frozen BK121.out 6))
      go_ret
      exact ⟨by first | rfl | (simp [errW_none, errW_some] <;> rfl) | (simp [*, errW_none, errW_some] <;> rfl), by repeat (first | (with_reducible first | exact HB.out | apply below_alloc | apply pw_below_drewN | apply below_drew1 | refine below_set ?_ GE121.out) | exact HB.out)⟩
    · replace c6 := Bool.eq_false_iff.mpr c6
      subst c6
      have H1 : (some 1) = some r := by rw [if_neg (show ¬ (false = true) by decide)] at H; exact H
      clear H
      have H := H1
      clear H1
      obtain rfl := Option.some.inj H
      go_enter Try.func36, Try.ntmps36
      go_wp2_with (first | ((with_reducible refine gate_dst (N := 2) rfl ?_); refine box_event ?hg (N := 2) ?hd (cs := #[.int .i64 a0_0, .int .i64 a0_1, .int .i64 a0_2, .int .i64 a0_3, .int .i64 a0_4, .int .i32 a0_5, .int .i64 a0_6]) (t := 37) ?hr ?_; (case hd => rfl); (case hg => rfl); (case hr => first | (go_simp; done) | (go_simp; rfl)); intro gb121 hg w9 hbox hb; have n0_ := Aside0.mk (below_step (by repeat (first | (with_reducible first | exact HB.out | apply below_alloc | apply pw_below_drewN | apply below_drew1) | exact HB.out)) hb); have n1_ := Aside0.mk (hbox); have n2_ := Aside0.mk ((by rw [hg]; exact (below_size (by repeat (first | (with_reducible first | exact HB.out | apply below_alloc | apply pw_below_drewN | apply below_drew1) | exact HB.out))) : w.heap.size ≤ gb121)); have n3_ := Aside0.mk ((by rw [hg]; exact (below_size (by repeat (first | (with_reducible first | exact HB.out | apply below_alloc | apply pw_below_drewN | apply below_drew1) | exact HB.out))) : w.heap.size ≤ gb121)); clear HB; have HB := n0_; have BK121 := n1_; have GW121 := n2_; have GE121 := n3_; clear n0_ n1_ n2_ n3_; clear hb hbox hg; have hcz10_0 : w9.cell? ⟨gb121, 0, none⟩ = some (.int .i64 a0_0) := (blk_cell BK121.out 0).trans rfl; have hcz10_1 : w9.cell? ⟨gb121, 1, none⟩ = some (.int .i64 a0_1) := (blk_cell BK121.out 1).trans rfl; have hcz10_2 : w9.cell? ⟨gb121, 2, none⟩ = some (.int .i64 a0_2) := (blk_cell BK121.out 2).trans rfl; have hcz10_3 : w9.cell? ⟨gb121, 3, none⟩ = some (.int .i64 a0_3) := (blk_cell BK121.out 3).trans rfl; have hcz10_4 : w9.cell? ⟨gb121, 4, none⟩ = some (.int .i64 a0_4) := (blk_cell BK121.out 4).trans rfl; have hcz10_5 : w9.cell? ⟨gb121, 5, none⟩ = some (.int .i32 a0_5) := (blk_cell BK121.out 5).trans rfl; have hcz10_6 : w9.cell? ⟨gb121, 6, none⟩ = some (.int .i64 a0_6) := (blk_cell BK121.out 6).trans rfl; have hfz10_0 := blk_frozen BK121.out 0; have hfz10_1 := blk_frozen BK121.out 1; have hfz10_2 := blk_frozen BK121.out 2; have hfz10_3 := blk_frozen BK121.out 3; have hfz10_4 := blk_frozen BK121.out 4; have hfz10_5 := blk_frozen BK121.out 5; have hfz10_6 := blk_frozen BK121.out 6))
      go_ret
      exact ⟨by first | rfl | (simp [errW_none, errW_some] <;> rfl) | (simp [*, errW_none, errW_some] <;> rfl), by repeat (first | (with_reducible first | exact HB.out | apply below_alloc | apply pw_below_drewN | apply below_drew1 | refine below_set ?_ GE121.out) | exact HB.out)⟩
-- NOT PRINTED: function 28 (asm_layout_place)
-- NOT PRINTED: function 17 (asm_laid)
-- NOT PRINTED: function 18 (asm_layout_words)
def isa_Encode.f (k : Nat) (a0_0 : Int) (a0_1 : Int) (a0_2 : Int) (a0_3 : Int) (a0_4 : Int) : Option (Int × Int) := (isa_Check.f k a0_0 a0_1 a0_2 a0_3 a0_4).bind fun t123 => (if t123 = 0 then ((isa_parts.f k a0_0).bind fun t124 => (if (Go.bits .and .i64 t124 32) = 0 then (some (Go.bits .or .u32 (Go.bits .or .u32 (Go.bits .or .u32 (Go.bits .or .u32 ((((a0_0) % 4294967296) * 16777216) % 4294967296) ((((a0_1) % 4294967296) * 1048576) % 4294967296)) ((((a0_2) % 4294967296) * 65536) % 4294967296)) ((((a0_3) % 4294967296) * 4096) % 4294967296)) (Go.bits .and .u32 ((a0_4) % 4294967296) 65535), 0)) else (some (Go.bits .or .u32 (Go.bits .or .u32 (Go.bits .or .u32 (Go.bits .or .u32 ((((a0_0) % 4294967296) * 16777216) % 4294967296) ((((a0_1) % 4294967296) * 1048576) % 4294967296)) ((((a0_2) % 4294967296) * 65536) % 4294967296)) ((((a0_3) % 4294967296) * 4096) % 4294967296)) (Go.bits .and .u32 ((a0_4) % 4294967296) 16777215), 0)))) else (some (0, t123)))
set_option maxHeartbeats 8000000 in
set_option maxRecDepth 100000 in
theorem isa_Encode.calls (k : Nat) (a0_0 : Int) (a0_1 : Int) (a0_2 : Int) (a0_3 : Int) (a0_4 : Int) (r1 : Int) (r2 : Int) (w : World) (h : isa_Encode.f k a0_0 a0_1 a0_2 a0_3 a0_4 = some (r1, r2)) :
    Calls Try.prog 19 #[.agg #[.int .i64 a0_0, .int .i64 a0_1, .int .i64 a0_2, .int .i64 a0_3, .int .i32 a0_4]] w fun e w' => e = .returned (.tuple #[.int .u32 r1, .int .i64 r2]) ∧ Below w.heap.size w w' := by
  have hu24 := Try.underlying24
  have HB := Aside0.mk (Below.refl w.heap.size w)
  have H : ((isa_Check.f k a0_0 a0_1 a0_2 a0_3 a0_4).bind fun t123 => (if t123 = 0 then ((isa_parts.f k a0_0).bind fun t124 => (if (Go.bits .and .i64 t124 32) = 0 then (some (Go.bits .or .u32 (Go.bits .or .u32 (Go.bits .or .u32 (Go.bits .or .u32 ((((a0_0) % 4294967296) * 16777216) % 4294967296) ((((a0_1) % 4294967296) * 1048576) % 4294967296)) ((((a0_2) % 4294967296) * 65536) % 4294967296)) ((((a0_3) % 4294967296) * 4096) % 4294967296)) (Go.bits .and .u32 ((a0_4) % 4294967296) 65535), 0)) else (some (Go.bits .or .u32 (Go.bits .or .u32 (Go.bits .or .u32 (Go.bits .or .u32 ((((a0_0) % 4294967296) * 16777216) % 4294967296) ((((a0_1) % 4294967296) * 1048576) % 4294967296)) ((((a0_2) % 4294967296) * 65536) % 4294967296)) ((((a0_3) % 4294967296) * 4096) % 4294967296)) (Go.bits .and .u32 ((a0_4) % 4294967296) 16777215), 0)))) else (some (0, t123)))) = some (r1, r2) := h
  clear h
  replace H := Option.bind_eq_some_iff.mp H
  obtain ⟨t123, A20, H⟩ := H
  replace H : (if t123 = 0 then ((isa_parts.f k a0_0).bind fun t124 => (if (Go.bits .and .i64 t124 32) = 0 then (some (Go.bits .or .u32 (Go.bits .or .u32 (Go.bits .or .u32 (Go.bits .or .u32 ((((a0_0) % 4294967296) * 16777216) % 4294967296) ((((a0_1) % 4294967296) * 1048576) % 4294967296)) ((((a0_2) % 4294967296) * 65536) % 4294967296)) ((((a0_3) % 4294967296) * 4096) % 4294967296)) (Go.bits .and .u32 ((a0_4) % 4294967296) 65535), 0)) else (some (Go.bits .or .u32 (Go.bits .or .u32 (Go.bits .or .u32 (Go.bits .or .u32 ((((a0_0) % 4294967296) * 16777216) % 4294967296) ((((a0_1) % 4294967296) * 1048576) % 4294967296)) ((((a0_2) % 4294967296) * 65536) % 4294967296)) ((((a0_3) % 4294967296) * 4096) % 4294967296)) (Go.bits .and .u32 ((a0_4) % 4294967296) 16777215), 0)))) else (some (0, t123))) = some (r1, r2) := H
  have A2 := Aside0.mk A20
  clear A20
  by_cases c3 : t123 = 0
  · rw [if_pos c3] at H
    have c3b0 : (t123 == 0) = true := beq_iff_eq.mpr c3
    have c3b1 : (t123 != 0) = false := bne_eq_false_iff_eq.mpr c3
    clear c3
    replace H := Option.bind_eq_some_iff.mp H
    obtain ⟨t124, A40, H⟩ := H
    replace H : (if (Go.bits .and .i64 t124 32) = 0 then (some (Go.bits .or .u32 (Go.bits .or .u32 (Go.bits .or .u32 (Go.bits .or .u32 ((((a0_0) % 4294967296) * 16777216) % 4294967296) ((((a0_1) % 4294967296) * 1048576) % 4294967296)) ((((a0_2) % 4294967296) * 65536) % 4294967296)) ((((a0_3) % 4294967296) * 4096) % 4294967296)) (Go.bits .and .u32 ((a0_4) % 4294967296) 65535), 0)) else (some (Go.bits .or .u32 (Go.bits .or .u32 (Go.bits .or .u32 (Go.bits .or .u32 ((((a0_0) % 4294967296) * 16777216) % 4294967296) ((((a0_1) % 4294967296) * 1048576) % 4294967296)) ((((a0_2) % 4294967296) * 65536) % 4294967296)) ((((a0_3) % 4294967296) * 4096) % 4294967296)) (Go.bits .and .u32 ((a0_4) % 4294967296) 16777215), 0))) = some (r1, r2) := H
    have A4 := Aside0.mk A40
    clear A40
    by_cases c5 : (Go.bits .and .i64 t124 32) = 0
    · rw [if_pos c5] at H
      have c5b0 : ((Go.bits .and .i64 t124 32) == 0) = true := beq_iff_eq.mpr c5
      have c5b1 : ((Go.bits .and .i64 t124 32) != 0) = false := bne_eq_false_iff_eq.mpr c5
      clear c5
      simp only [Option.some.injEq, Prod.mk.injEq] at H
      obtain ⟨rfl, rfl⟩ := H
      go_enter Try.func19, Try.ntmps19
      go_wp2_with (first | ((with_reducible refine gate_dst (N := 1) rfl ?_); refine box_event ?hg (N := 1) ?hd (cs := #[.int .i64 a0_0, .int .i64 a0_1, .int .i64 a0_2, .int .i64 a0_3, .int .i32 a0_4]) (t := 24) ?hr ?_; (case hd => rfl); (case hg => rfl); (case hr => first | (go_simp; done) | (go_simp; rfl)); intro gb122 hg w6 hbox hb; have n0_ := Aside0.mk (below_step (by repeat (first | (with_reducible first | exact HB.out | apply below_alloc | apply pw_below_drewN | apply below_drew1) | exact HB.out)) hb); have n1_ := Aside0.mk (hbox); have n2_ := Aside0.mk ((by rw [hg]; exact (below_size (by repeat (first | (with_reducible first | exact HB.out | apply below_alloc | apply pw_below_drewN | apply below_drew1) | exact HB.out))) : w.heap.size ≤ gb122)); have n3_ := Aside0.mk ((by rw [hg]; exact (below_size (by repeat (first | (with_reducible first | exact HB.out | apply below_alloc | apply pw_below_drewN | apply below_drew1) | exact HB.out))) : w.heap.size ≤ gb122)); clear HB; have HB := n0_; have BK122 := n1_; have GW122 := n2_; have GE122 := n3_; clear n0_ n1_ n2_ n3_; clear hb hbox hg; have hcz7_0 : w6.cell? ⟨gb122, 0, none⟩ = some (.int .i64 a0_0) := (blk_cell BK122.out 0).trans rfl; have hcz7_1 : w6.cell? ⟨gb122, 1, none⟩ = some (.int .i64 a0_1) := (blk_cell BK122.out 1).trans rfl; have hcz7_2 : w6.cell? ⟨gb122, 2, none⟩ = some (.int .i64 a0_2) := (blk_cell BK122.out 2).trans rfl; have hcz7_3 : w6.cell? ⟨gb122, 3, none⟩ = some (.int .i64 a0_3) := (blk_cell BK122.out 3).trans rfl; have hcz7_4 : w6.cell? ⟨gb122, 4, none⟩ = some (.int .i32 a0_4) := (blk_cell BK122.out 4).trans rfl; have hfz7_0 := blk_frozen BK122.out 0; have hfz7_1 := blk_frozen BK122.out 1; have hfz7_2 := blk_frozen BK122.out 2; have hfz7_3 := blk_frozen BK122.out 3; have hfz7_4 := blk_frozen BK122.out 4) | ((with_reducible refine gate_callee (f := 29) rfl ?_); refine goesL_ (some 7) rfl rfl Try.func29 (by kernel_rfl) rfl #[.agg #[.int .i64 a0_0, .int .i64 a0_1, .int .i64 a0_2, .int .i64 a0_3, .int .i32 a0_4]] rfl (by (try simp only [List.map_toArray, List.map_cons, List.map_nil]); first | done | rfl | (simp only [List.length_drop, List.length_take]; rfl)) ?_; (with_reducible refine (isa_Check.calls k a0_0 a0_1 a0_2 a0_3 a0_4 t123 _ A2.out).mono ?_); rintro e w8 ⟨rfl, hb⟩; refine ⟨_, rfl, ?_⟩; have n0_ := Aside0.mk (blk_below (g := gb122) (o := .cells #[.int .i64 a0_0, .int .i64 a0_1, .int .i64 a0_2, .int .i64 a0_3, .int .i32 a0_4] 24 (0, 0)) (by (with_reducible repeat (first | refine blk_drewN ?_ _ | refine blk_drew ?_ | refine blk_alloc ?_ _)); exact BK122.out) hb); have n1_ := Aside0.mk (below_step (by repeat (first | (with_reducible first | exact HB.out | apply below_alloc | apply pw_below_drewN | apply below_drew1 | refine below_set ?_ GE122.out) | exact HB.out)) hb); clear BK122; clear HB; have BK122 := n0_; have HB := n1_; clear n0_ n1_; (try clear hb); (try clear hb2); (try clear hk); (try clear hi); have hcz9_0 : w8.cell? ⟨gb122, 0, none⟩ = some (.int .i64 a0_0) := (blk_cell BK122.out 0).trans rfl; have hcz9_1 : w8.cell? ⟨gb122, 1, none⟩ = some (.int .i64 a0_1) := (blk_cell BK122.out 1).trans rfl; have hcz9_2 : w8.cell? ⟨gb122, 2, none⟩ = some (.int .i64 a0_2) := (blk_cell BK122.out 2).trans rfl; have hcz9_3 : w8.cell? ⟨gb122, 3, none⟩ = some (.int .i64 a0_3) := (blk_cell BK122.out 3).trans rfl; have hcz9_4 : w8.cell? ⟨gb122, 4, none⟩ = some (.int .i32 a0_4) := (blk_cell BK122.out 4).trans rfl; have hfz9_0 := blk_frozen BK122.out 0; have hfz9_1 := blk_frozen BK122.out 1; have hfz9_2 := blk_frozen BK122.out 2; have hfz9_3 := blk_frozen BK122.out 3; have hfz9_4 := blk_frozen BK122.out 4) | ((with_reducible refine gate_callee (f := 30) rfl ?_); refine goesL_ (some 32) rfl rfl Try.func30 (by kernel_rfl) rfl #[.int .i64 a0_0] rfl (by (try simp only [List.map_toArray, List.map_cons, List.map_nil]); first | done | rfl | (simp only [List.length_drop, List.length_take]; rfl)) ?_; (with_reducible refine (isa_parts.calls k a0_0 t124 _ A4.out).mono ?_); rintro e w' ⟨rfl, ⟨nd, rfl⟩⟩; refine ⟨_, rfl, ?_⟩))
      go_ret2
      exact ⟨by first | rfl | (simp [errW_none, errW_some] <;> rfl) | (simp [*, errW_none, errW_some] <;> rfl), by repeat (first | (with_reducible first | exact HB.out | apply below_alloc | apply pw_below_drewN | apply below_drew1 | refine below_set ?_ GE122.out) | exact HB.out)⟩
    · rw [if_neg c5] at H
      have c5b0 : ((Go.bits .and .i64 t124 32) == 0) = false := beq_eq_false_iff_ne.mpr c5
      have c5b1 : ((Go.bits .and .i64 t124 32) != 0) = true := bne_iff_ne.mpr c5
      simp only [Option.some.injEq, Prod.mk.injEq] at H
      obtain ⟨rfl, rfl⟩ := H
      go_enter Try.func19, Try.ntmps19
      go_wp2_with (first | ((with_reducible refine gate_dst (N := 1) rfl ?_); refine box_event ?hg (N := 1) ?hd (cs := #[.int .i64 a0_0, .int .i64 a0_1, .int .i64 a0_2, .int .i64 a0_3, .int .i32 a0_4]) (t := 24) ?hr ?_; (case hd => rfl); (case hg => rfl); (case hr => first | (go_simp; done) | (go_simp; rfl)); intro gb122 hg w10 hbox hb; have n0_ := Aside0.mk (below_step (by repeat (first | (with_reducible first | exact HB.out | apply below_alloc | apply pw_below_drewN | apply below_drew1) | exact HB.out)) hb); have n1_ := Aside0.mk (hbox); have n2_ := Aside0.mk ((by rw [hg]; exact (below_size (by repeat (first | (with_reducible first | exact HB.out | apply below_alloc | apply pw_below_drewN | apply below_drew1) | exact HB.out))) : w.heap.size ≤ gb122)); have n3_ := Aside0.mk ((by rw [hg]; exact (below_size (by repeat (first | (with_reducible first | exact HB.out | apply below_alloc | apply pw_below_drewN | apply below_drew1) | exact HB.out))) : w.heap.size ≤ gb122)); clear HB; have HB := n0_; have BK122 := n1_; have GW122 := n2_; have GE122 := n3_; clear n0_ n1_ n2_ n3_; clear hb hbox hg; have hcz11_0 : w10.cell? ⟨gb122, 0, none⟩ = some (.int .i64 a0_0) := (blk_cell BK122.out 0).trans rfl; have hcz11_1 : w10.cell? ⟨gb122, 1, none⟩ = some (.int .i64 a0_1) := (blk_cell BK122.out 1).trans rfl; have hcz11_2 : w10.cell? ⟨gb122, 2, none⟩ = some (.int .i64 a0_2) := (blk_cell BK122.out 2).trans rfl; have hcz11_3 : w10.cell? ⟨gb122, 3, none⟩ = some (.int .i64 a0_3) := (blk_cell BK122.out 3).trans rfl; have hcz11_4 : w10.cell? ⟨gb122, 4, none⟩ = some (.int .i32 a0_4) := (blk_cell BK122.out 4).trans rfl; have hfz11_0 := blk_frozen BK122.out 0; have hfz11_1 := blk_frozen BK122.out 1; have hfz11_2 := blk_frozen BK122.out 2; have hfz11_3 := blk_frozen BK122.out 3; have hfz11_4 := blk_frozen BK122.out 4) | ((with_reducible refine gate_callee (f := 29) rfl ?_); refine goesL_ (some 7) rfl rfl Try.func29 (by kernel_rfl) rfl #[.agg #[.int .i64 a0_0, .int .i64 a0_1, .int .i64 a0_2, .int .i64 a0_3, .int .i32 a0_4]] rfl (by (try simp only [List.map_toArray, List.map_cons, List.map_nil]); first | done | rfl | (simp only [List.length_drop, List.length_take]; rfl)) ?_; (with_reducible refine (isa_Check.calls k a0_0 a0_1 a0_2 a0_3 a0_4 t123 _ A2.out).mono ?_); rintro e w12 ⟨rfl, hb⟩; refine ⟨_, rfl, ?_⟩; have n0_ := Aside0.mk (blk_below (g := gb122) (o := .cells #[.int .i64 a0_0, .int .i64 a0_1, .int .i64 a0_2, .int .i64 a0_3, .int .i32 a0_4] 24 (0, 0)) (by (with_reducible repeat (first | refine blk_drewN ?_ _ | refine blk_drew ?_ | refine blk_alloc ?_ _)); exact BK122.out) hb); have n1_ := Aside0.mk (below_step (by repeat (first | (with_reducible first | exact HB.out | apply below_alloc | apply pw_below_drewN | apply below_drew1 | refine below_set ?_ GE122.out) | exact HB.out)) hb); clear BK122; clear HB; have BK122 := n0_; have HB := n1_; clear n0_ n1_; (try clear hb); (try clear hb2); (try clear hk); (try clear hi); have hcz13_0 : w12.cell? ⟨gb122, 0, none⟩ = some (.int .i64 a0_0) := (blk_cell BK122.out 0).trans rfl; have hcz13_1 : w12.cell? ⟨gb122, 1, none⟩ = some (.int .i64 a0_1) := (blk_cell BK122.out 1).trans rfl; have hcz13_2 : w12.cell? ⟨gb122, 2, none⟩ = some (.int .i64 a0_2) := (blk_cell BK122.out 2).trans rfl; have hcz13_3 : w12.cell? ⟨gb122, 3, none⟩ = some (.int .i64 a0_3) := (blk_cell BK122.out 3).trans rfl; have hcz13_4 : w12.cell? ⟨gb122, 4, none⟩ = some (.int .i32 a0_4) := (blk_cell BK122.out 4).trans rfl; have hfz13_0 := blk_frozen BK122.out 0; have hfz13_1 := blk_frozen BK122.out 1; have hfz13_2 := blk_frozen BK122.out 2; have hfz13_3 := blk_frozen BK122.out 3; have hfz13_4 := blk_frozen BK122.out 4) | ((with_reducible refine gate_callee (f := 30) rfl ?_); refine goesL_ (some 32) rfl rfl Try.func30 (by kernel_rfl) rfl #[.int .i64 a0_0] rfl (by (try simp only [List.map_toArray, List.map_cons, List.map_nil]); first | done | rfl | (simp only [List.length_drop, List.length_take]; rfl)) ?_; (with_reducible refine (isa_parts.calls k a0_0 t124 _ A4.out).mono ?_); rintro e w' ⟨rfl, ⟨nd, rfl⟩⟩; refine ⟨_, rfl, ?_⟩))
      go_ret2
      exact ⟨by first | rfl | (simp [errW_none, errW_some] <;> rfl) | (simp [*, errW_none, errW_some] <;> rfl), by repeat (first | (with_reducible first | exact HB.out | apply below_alloc | apply pw_below_drewN | apply below_drew1 | refine below_set ?_ GE122.out) | exact HB.out)⟩
  · rw [if_neg c3] at H
    have c3b0 : (t123 == 0) = false := beq_eq_false_iff_ne.mpr c3
    have c3b1 : (t123 != 0) = true := bne_iff_ne.mpr c3
    simp only [Option.some.injEq, Prod.mk.injEq] at H
    obtain ⟨rfl, rfl⟩ := H
    go_enter Try.func19, Try.ntmps19
    go_wp2_with (first | ((with_reducible refine gate_dst (N := 1) rfl ?_); refine box_event ?hg (N := 1) ?hd (cs := #[.int .i64 a0_0, .int .i64 a0_1, .int .i64 a0_2, .int .i64 a0_3, .int .i32 a0_4]) (t := 24) ?hr ?_; (case hd => rfl); (case hg => rfl); (case hr => first | (go_simp; done) | (go_simp; rfl)); intro gb122 hg w14 hbox hb; have n0_ := Aside0.mk (below_step (by repeat (first | (with_reducible first | exact HB.out | apply below_alloc | apply pw_below_drewN | apply below_drew1) | exact HB.out)) hb); have n1_ := Aside0.mk (hbox); have n2_ := Aside0.mk ((by rw [hg]; exact (below_size (by repeat (first | (with_reducible first | exact HB.out | apply below_alloc | apply pw_below_drewN | apply below_drew1) | exact HB.out))) : w.heap.size ≤ gb122)); have n3_ := Aside0.mk ((by rw [hg]; exact (below_size (by repeat (first | (with_reducible first | exact HB.out | apply below_alloc | apply pw_below_drewN | apply below_drew1) | exact HB.out))) : w.heap.size ≤ gb122)); clear HB; have HB := n0_; have BK122 := n1_; have GW122 := n2_; have GE122 := n3_; clear n0_ n1_ n2_ n3_; clear hb hbox hg; have hcz15_0 : w14.cell? ⟨gb122, 0, none⟩ = some (.int .i64 a0_0) := (blk_cell BK122.out 0).trans rfl; have hcz15_1 : w14.cell? ⟨gb122, 1, none⟩ = some (.int .i64 a0_1) := (blk_cell BK122.out 1).trans rfl; have hcz15_2 : w14.cell? ⟨gb122, 2, none⟩ = some (.int .i64 a0_2) := (blk_cell BK122.out 2).trans rfl; have hcz15_3 : w14.cell? ⟨gb122, 3, none⟩ = some (.int .i64 a0_3) := (blk_cell BK122.out 3).trans rfl; have hcz15_4 : w14.cell? ⟨gb122, 4, none⟩ = some (.int .i32 a0_4) := (blk_cell BK122.out 4).trans rfl; have hfz15_0 := blk_frozen BK122.out 0; have hfz15_1 := blk_frozen BK122.out 1; have hfz15_2 := blk_frozen BK122.out 2; have hfz15_3 := blk_frozen BK122.out 3; have hfz15_4 := blk_frozen BK122.out 4) | ((with_reducible refine gate_callee (f := 29) rfl ?_); refine goesL_ (some 7) rfl rfl Try.func29 (by kernel_rfl) rfl #[.agg #[.int .i64 a0_0, .int .i64 a0_1, .int .i64 a0_2, .int .i64 a0_3, .int .i32 a0_4]] rfl (by (try simp only [List.map_toArray, List.map_cons, List.map_nil]); first | done | rfl | (simp only [List.length_drop, List.length_take]; rfl)) ?_; (with_reducible refine (isa_Check.calls k a0_0 a0_1 a0_2 a0_3 a0_4 t123 _ A2.out).mono ?_); rintro e w16 ⟨rfl, hb⟩; refine ⟨_, rfl, ?_⟩; have n0_ := Aside0.mk (blk_below (g := gb122) (o := .cells #[.int .i64 a0_0, .int .i64 a0_1, .int .i64 a0_2, .int .i64 a0_3, .int .i32 a0_4] 24 (0, 0)) (by (with_reducible repeat (first | refine blk_drewN ?_ _ | refine blk_drew ?_ | refine blk_alloc ?_ _)); exact BK122.out) hb); have n1_ := Aside0.mk (below_step (by repeat (first | (with_reducible first | exact HB.out | apply below_alloc | apply pw_below_drewN | apply below_drew1 | refine below_set ?_ GE122.out) | exact HB.out)) hb); clear BK122; clear HB; have BK122 := n0_; have HB := n1_; clear n0_ n1_; (try clear hb); (try clear hb2); (try clear hk); (try clear hi)))
    go_ret2
    exact ⟨by first | rfl | (simp [errW_none, errW_some] <;> rfl) | (simp [*, errW_none, errW_some] <;> rfl), by repeat (first | (with_reducible first | exact HB.out | apply below_alloc | apply pw_below_drewN | apply below_drew1 | refine below_set ?_ GE122.out) | exact HB.out)⟩
end Go.Proofs.Ytdhmnjoceeolcaa.GF
end
section
namespace Go.Proofs.Ytdhmnjoceeolcaa.Asm
open Go.RowKit Go.Proofs.YtdhmnjoceeolcaaW.PrintWords Go.Proofs.YtdhmnjoceeolcaaW.PrintLast Go.Proofs.YtdhmnjoceeolcaaW.PrintMore Go.Proofs.Ytdhmnjoceeolcaa.GF
set_option linter.unusedVariables false
set_option linter.unusedSimpArgs false
abbrev Mm := List (Int × Int)
/-- What stands at a key. -/
def get : Mm → Int → Option Int
  | [], _ => none
  | p :: r, k => if p.1 = k then some p.2 else get r k
def up : Mm → Int → Int → Mm
  | [], k, x => [(k, x)]
  | p :: r, k, x => if p.1 = k then (k, x) :: r else p :: up r k x
theorem get_up (k x k' : Int) : ∀ es : Mm, get (up es k x) k' = if k' = k then some x else get es k'
  | [] => by simp only [up, get]; by_cases h : k = k' <;> simp [h]; intro e; exact absurd e.symm h
  | p :: r => by
    unfold up
    by_cases h : p.1 = k
    · rw [if_pos h]
      by_cases h2 : k' = k
      · rw [if_pos h2, get, if_pos h2.symm]
      · rw [if_neg h2, get, if_neg (fun e => h2 e.symm), get, if_neg (fun e => h2 (by rw [← e, h]))]
    · rw [if_neg h, get, get_up k x k' r]
      by_cases h3 : p.1 = k'
      · rw [if_pos h3, if_neg (fun e => h (by rw [h3, e])), get, if_pos h3]
      · rw [if_neg h3]
        by_cases h2 : k' = k
        · rw [if_pos h2]
          rw [if_pos h2]
        · rw [if_neg h2, if_neg h2, get, if_neg h3]
def vals (es : Mm) : List (Value × Value) := es.map fun p => (Value.int .i64 p.1, Value.int .i64 p.2)
/-- The map of a block. -/
def Mp (w : World) (m : Nat) (es : Mm) : Prop :=
  ∃ ents clock, w.heap[m]? = some (.map ents clock) ∧ ents.toList.map (fun x => (x.key, x.val)) = vals es
theorem find_get : ∀ (l : List MapEntry) (es : Mm) (k x : Int) (i : Nat), l.map (fun x => (x.key, x.val)) = vals es →
    (get es k = none ∧ up es k x = es ++ [(k, x)] ∧ Instr.findNow (.int .i64) (.int .i64 k) l i = some none) ∨
    (∃ v j, get es k = some v ∧ Instr.findNow (.int .i64) (.int .i64 k) l i = some (some (i + j, .int .i64 v)) ∧ up es k x = es.set j (k, x) ∧ ∃ e, l[j]? = some e ∧ e.key = .int .i64 k)
  | [], [], k, x, i, _ => .inl ⟨rfl, rfl, rfl⟩
  | [], p :: es, k, x, i, h => by simp [vals] at h
  | e :: l, [], k, x, i, h => by simp [vals] at h
  | e :: l, p :: es, k, x, i, h => by
    simp only [vals, List.map_cons, List.cons.injEq, Prod.mk.injEq] at h
    obtain ⟨⟨hk, hv⟩, h⟩ := h
    obtain ⟨r, hr, hi⟩ := MapKept.sameNow_of_keys (d := .int .i64) (a := .int .i64 k) (b := e.key) rfl (by rw [hk]; rfl)
    unfold get up Instr.findNow
    rw [hr]
    cases r with
    | true =>
      have hkp : k = p.1 := by have := hi.1 rfl; rw [hk] at this; injection this
      rw [if_pos hkp.symm, if_pos hkp.symm, hv]
      exact .inr ⟨p.2, 0, rfl, rfl, rfl, e, rfl, by rw [hk, hkp]⟩
    | false =>
      have hne : ¬ p.1 = k := fun e' => by
        have := hi.2 (by rw [hk, e'])
        cases this
      rw [if_neg hne, if_neg hne]
      rcases find_get l es k x (i + 1) h with ⟨h1, h2, h3⟩ | ⟨v, j, h1, h2, h3, h4⟩
      · exact .inl ⟨h1, by rw [h2]; rfl, h3⟩
      · exact .inr ⟨v, j + 1, h1, by rw [show i + (j + 1) = i + 1 + j by omega]; exact h2, by rw [h3]; rfl, h4⟩
theorem zero3 (w : World) : (zeroValue 3).run Try.prog w = .ok (.int .i64 0) w := by kernel_rfl
theorem ck3 (k : Int) (b : Bool) (w : World) : (Instr.checkKey b 10000 3 (.int .i64 k)).run Try.prog w = .ok () w := MapKept.run_checkKey (k := .int .i64 k) Try.underlying3 rfl _ 9999
theorem look {w : World} {m : Nat} {es : Mm} (h : Mp w m es) (k : Int) : (Instr.lookup 42 (.map (some m)) (.int .i64 k) false).run Try.prog w = .ok (.int .i64 ((get es k).getD 0)) w := by
  obtain ⟨ents, clock, hb, he⟩ := h
  rcases find_get ents.toList es k 0 0 he with ⟨h1, _, h3⟩ | ⟨v, j, h1, h3, _⟩
  · simp [Instr.lookup, run_underlying Try.underlying42, MapKept.run_getObj_map hb, ck3, MapKept.run_findKey Try.underlying3 h3, zero3, Result.andThen, h1]
  · simp [Instr.lookup, run_underlying Try.underlying42, MapKept.run_getObj_map hb, ck3, MapKept.run_findKey Try.underlying3 h3, Result.andThen, h1]
theorem lookok {w : World} {m : Nat} {es : Mm} (h : Mp w m es) (k : Int) : (Instr.lookup 42 (.map (some m)) (.int .i64 k) true).run Try.prog w = .ok (.tuple #[.int .i64 ((get es k).getD 0), .bool (get es k).isSome]) w := by
  obtain ⟨ents, clock, hb, he⟩ := h
  rcases find_get ents.toList es k 0 0 he with ⟨h1, _, h3⟩ | ⟨v, j, h1, h3, _⟩
  · simp [Instr.lookup, run_underlying Try.underlying42, MapKept.run_getObj_map hb, ck3, MapKept.run_findKey Try.underlying3 h3, zero3, Result.andThen, h1]
  · simp [Instr.lookup, run_underlying Try.underlying42, MapKept.run_getObj_map hb, ck3, MapKept.run_findKey Try.underlying3 h3, Result.andThen, h1]
/-- What a store leaves. -/
def putO (k x : Int) (ents : Array MapEntry) (clock : Nat) : Obj :=
  match Instr.findNow (.int .i64) (.int .i64 k) ents.toList 0 with
  | some (some (i, _)) => .map (ents.modify i fun e => { e with key := .int .i64 k, val := .int .i64 x }) clock
  | _ => .map (ents.push { key := .int .i64 k, val := .int .i64 x, born := clock }) (clock + 1)
def putM (w : World) (m : Nat) (k x : Int) : World :=
  match w.heap[m]? with
  | some (.map ents clock) => { w with heap := w.heap.setIfInBounds m (putO k x ents clock) }
  | _ => w
theorem put {w : World} {m : Nat} {es : Mm} (h : Mp w m es) (k x : Int) : (Instr.mapUpdate 42 (.map (some m)) (.int .i64 k) (.int .i64 x)).run Try.prog w = .ok () (putM w m k x) := by
  obtain ⟨ents, clock, hb, he⟩ := h
  rcases find_get ents.toList es k x 0 he with ⟨h1, _, h3⟩ | ⟨v, j, h1, h3, _, e, h4, h5⟩
  · simp [Instr.mapUpdate, run_underlying Try.underlying42, MapKept.run_getObj_map hb, ck3, MapKept.run_findKey Try.underlying3 h3, MapKept.run_setObj_map _ hb, Result.andThen, putM, hb, putO, h3]
  · rw [Nat.zero_add] at h3
    have hj : ents[j]? = some e := by simpa using h4
    have hst : ∀ w, (Instr.keyThatStays (.int .i64 k) (.int .i64 k)).run Try.prog w = .ok (.int .i64 k) w := fun w => MapKept.run_keyThatStays (d := .int .i64) (k := .int .i64 k) rfl
    simp [Instr.mapUpdate, run_underlying Try.underlying42, MapKept.run_getObj_map hb, ck3, MapKept.run_findKey Try.underlying3 h3, hj, h5, hst, MapKept.run_setObj_map _ hb, Result.andThen, putM, hb, putO, h3]
theorem putO_eq {ents : Array MapEntry} {es : Mm} (he : ents.toList.map (fun x => (x.key, x.val)) = vals es) (k x : Int) (clock : Nat) : ∃ ents' c', putO k x ents clock = .map ents' c' ∧ ents'.toList.map (fun x => (x.key, x.val)) = vals (up es k x) := by
  unfold putO
  rcases find_get ents.toList es k x 0 he with ⟨h1, h2, h3⟩ | ⟨v, j, h1, h3, h2, e, h4, h5⟩
  · rw [h3]
    exact ⟨_, _, rfl, by rw [h2]; simp [vals, he]⟩
  · rw [Nat.zero_add] at h3
    rw [h3]
    refine ⟨_, _, rfl, ?_⟩
    rw [h2]
    have hj : ents[j]? = some e := by simpa using h4
    rw [vals, List.map_set, show es.map (fun p => (Value.int .i64 p.1, Value.int .i64 p.2)) = vals es from rfl, ← he]
    apply List.ext_getElem?
    intro i
    rw [List.getElem?_map, List.getElem?_set, Array.getElem?_toList, Array.getElem?_modify, List.getElem?_map, Array.getElem?_toList]
    by_cases hi : j = i
    · subst hi
      have hlt : j < ents.toList.length := by have := (Array.getElem?_eq_some_iff.1 hj).1; simpa using this
      rw [if_pos rfl, if_pos rfl, if_pos (by simpa using hlt), hj]; rfl
    · rw [if_neg hi, if_neg hi]
theorem put_mp {w : World} {m : Nat} {es : Mm} (h : Mp w m es) (k x : Int) : Mp (putM w m k x) m (up es k x) := by
  obtain ⟨ents, clock, hb, he⟩ := h
  obtain ⟨ents', c', hO, hm⟩ := putO_eq he k x clock
  unfold putM
  rw [hb]
  exact ⟨ents', c', by rw [← hO]; exact (MapKept.heap_set hb).1, hm⟩
theorem put_block {w : World} {m : Nat} {es : Mm} (h : Mp w m es) (k x : Int) (b : Nat) (hk : b ≠ m) : (putM w m k x).heap[b]? = w.heap[b]? := by
  obtain ⟨ents, clock, hb, he⟩ := h
  unfold putM
  rw [hb]
  exact (MapKept.heap_set hb).2 b hk
theorem put_size {w : World} {m : Nat} {es : Mm} (h : Mp w m es) (k x : Int) : (putM w m k x).heap.size = w.heap.size := by
  obtain ⟨ents, clock, hb, he⟩ := h
  unfold putM
  rw [hb]
  simp
theorem put_below {w W : World} {m : Nat} {es : Mm} (h : Below w.heap.size w W) (hm : Mp W m es) (hg : w.heap.size ≤ m) (k x : Int) : Below w.heap.size w (putM W m k x) :=
  ⟨by rw [show (putM W m k x).os = W.os by obtain ⟨e, c, hb, _⟩ := hm; unfold putM; rw [hb]]; exact h.os, by rw [show (putM W m k x).tape = W.tape by obtain ⟨e, c, hb, _⟩ := hm; unfold putM; rw [hb]]; exact h.tape, by rw [show (putM W m k x).output = W.output by obtain ⟨e, c, hb, _⟩ := hm; unfold putM; rw [hb]]; exact h.output, by rw [put_size hm]; exact h.size, fun b hb => (put_block hm k x b (by omega)).trans (h.block b hb)⟩
theorem Mp.keep {w w' : World} {m : Nat} {es : Mm} (h : Mp w m es) (hb : w'.heap[m]? = w.heap[m]?) : Mp w' m es := by
  obtain ⟨ents, clock, h1, h2⟩ := h
  exact ⟨ents, clock, hb.trans h1, h2⟩
theorem Mp.lt {w : World} {m : Nat} {es : Mm} (h : Mp w m es) : m < w.heap.size := by
  obtain ⟨ents, clock, h1, h2⟩ := h
  exact (Array.getElem?_eq_some_iff.1 h1).1
theorem Mp.below {w w' : World} {m : Nat} {es : Mm} (h : Mp w m es) (b : Below w.heap.size w w') : Mp w' m es := h.keep (b.block _ h.lt)
theorem Mp.new (w : World) : Mp (w.alloc (.map #[] 0)) w.heap.size [] := ⟨_, _, blk_new w _, rfl⟩
theorem Mp.cells {w : World} {m g : Nat} {es : Mm} {cs : Array Value} {t : TypeId} {q : Nat × Nat} (h : Mp w m es) (hb : w.heap[g]? = some (.cells cs t q)) : g ≠ m := by
  rintro rfl
  obtain ⟨ents, clock, h1, h2⟩ := h
  rw [h1] at hb; cases hb
end Go.Proofs.Ytdhmnjoceeolcaa.Asm
end
section
namespace Go.Proofs.Ytdhmnjoceeolcaa.GF
open Go.RowKit Go.Proofs.YtdhmnjoceeolcaaW.PrintWords Go.Proofs.YtdhmnjoceeolcaaW.PrintLast Go.Proofs.YtdhmnjoceeolcaaW.PrintMore
attribute [local go_sem] max2_int min2_int max_two min_two max_three min_three max_four min_four   -- for this text's walks alone
set_option linter.unusedVariables false
set_option linter.unusedSimpArgs false
mutual
def crucibleref02_shaped.j0 : Nat → Int → Bool → Option (Bool × Bool × Bool × Int × Bool × Bool)
  | 0, _, _ => none
  | k + 1, x0, x8 => if x8 = true then (some (true, true, true, 0, false, true)) else (if x0 = 32 then (crucibleref02_shaped.j1 k x0 (x0 == 32)) else (if x0 = 35 then (crucibleref02_shaped.j1 k x0 (x0 == 35)) else (if x0 = 36 then (crucibleref02_shaped.j1 k x0 (x0 == 36)) else (if x0 = 37 then (crucibleref02_shaped.j1 k x0 (x0 == 37)) else (crucibleref02_shaped.j1 k x0 (x0 == 38))))))
def crucibleref02_shaped.j1 : Nat → Int → Bool → Option (Bool × Bool × Bool × Int × Bool × Bool)
  | 0, _, _ => none
  | k + 1, x10, x11 => if x11 = true then (some (true, true, false, 16, true, true)) else (if x10 = 33 then (some (true, false, false, 16, true, true)) else (if x10 = 34 then (some (true, false, false, 16, false, true)) else (if x10 = 39 then (crucibleref02_shaped.j2 k x10 (x10 == 39)) else (crucibleref02_shaped.j2 k x10 (x10 == 40)))))
def crucibleref02_shaped.j2 : Nat → Int → Bool → Option (Bool × Bool × Bool × Int × Bool × Bool)
  | 0, _, _ => none
  | k + 1, x10, x24 => if x24 = true then (some (false, true, false, 16, true, true)) else (if x10 = 41 then (crucibleref02_shaped.j3 k x10 (x10 == 41)) else (crucibleref02_shaped.j3 k x10 (x10 == 42)))
def crucibleref02_shaped.j3 : Nat → Int → Bool → Option (Bool × Bool × Bool × Int × Bool × Bool)
  | 0, _, _ => none
  | k + 1, x10, x28 => if x28 = true then (some (false, false, false, 24, true, true)) else (if x10 = 43 then (crucibleref02_shaped.j4 k x10 (x10 == 43)) else (if x10 = 45 then (crucibleref02_shaped.j4 k x10 (x10 == 45)) else (crucibleref02_shaped.j4 k x10 (x10 == 47))))
def crucibleref02_shaped.j4 : Nat → Int → Bool → Option (Bool × Bool × Bool × Int × Bool × Bool)
  | 0, _, _ => none
  | k + 1, x10, x32 => if x32 = true then (some (false, true, false, 0, false, true)) else (if x10 = 44 then (some (true, false, false, 0, false, true)) else (if x10 = 46 then (some (false, false, false, 16, false, true)) else (some (false, false, false, 0, false, false))))
end
def crucibleref02_shaped.f (k : Nat) (a0 : Int) : Option (Bool × Bool × Bool × Int × Bool × Bool) := if a0 ≥ 1 then (crucibleref02_shaped.j0 k a0 (decide (a0 ≤ 19))) else (crucibleref02_shaped.j0 k a0 false)
set_option maxHeartbeats 8000000 in
set_option maxRecDepth 100000 in
theorem crucibleref02_shaped.calls (k : Nat) (a0 : Int) (r1 : Bool) (r2 : Bool) (r3 : Bool) (r4 : Int) (r5 : Bool) (r6 : Bool) (w : World) (h : crucibleref02_shaped.f k a0 = some (r1, r2, r3, r4, r5, r6)) :
    Calls Try.prog 39 #[.int .i64 a0] w fun e w' => e = .returned (.agg #[.bool r1, .bool r2, .bool r3, .int .i64 r4, .bool r5, .bool r6]) ∧ Below w.heap.size w w' := by
  have hu80 := Try.underlying80
  have HB := Aside0.mk (Below.refl w.heap.size w)
  have H : (if a0 ≥ 1 then (crucibleref02_shaped.j0 k a0 (decide (a0 ≤ 19))) else (crucibleref02_shaped.j0 k a0 false)) = some (r1, r2, r3, r4, r5, r6) := h
  clear h
  have HC2 := Aside0.mk H
  clear H
  go_enter Try.func39, Try.ntmps39
  go_upto_region 1 with (first | ((with_reducible refine gate_dst (N := 2) rfl ?_); refine box_event ?hg (N := 2) ?hd (cs := #[.bool false, .bool false, .bool false, .int .i64 0, .bool false, .bool false]) (t := 80) ?hr ?_; (case hd => rfl); (case hg => rfl); (case hr => first | (go_simp; done) | (go_simp; rfl)); intro gb160 hg w3 hbox hb; have n0_ := Aside0.mk (below_step (by repeat (first | (with_reducible first | exact HB.out | apply below_alloc | apply pw_below_drewN | apply below_drew1) | exact HB.out)) hb); have n1_ := Aside0.mk (hbox); have n2_ := Aside0.mk ((by rw [hg]; exact (below_size (by repeat (first | (with_reducible first | exact HB.out | apply below_alloc | apply pw_below_drewN | apply below_drew1) | exact HB.out))) : w.heap.size ≤ gb160)); have n3_ := Aside0.mk ((by rw [hg]; exact (below_size (by repeat (first | (with_reducible first | exact HB.out | apply below_alloc | apply pw_below_drewN | apply below_drew1) | exact HB.out))) : w.heap.size ≤ gb160)); clear HB; have HB := n0_; have BK160 := n1_; have GW160 := n2_; have GE160 := n3_; clear n0_ n1_ n2_ n3_; clear hb hbox hg))
  (try simp only [Act.put, List.setIfInBounds_toArray, List.set_cons_zero, List.set_cons_succ])
  go_cut [8] (fun v8 wc => ∃ (kq : Nat) (x8_1 : Bool), v8 = .bool x8_1 ∧ Aside0 (crucibleref02_shaped.j0 kq a0 x8_1 = some (r1, r2, r3, r4, r5, r6)) ∧ Aside0 (kq ≤ k) ∧ Aside0 (wc.heap[gb160]? = some (.cells #[.bool false, .bool false, .bool false, .int .i64 0, .bool false, .bool false] 80 (0, 0))) ∧ Aside0 (Below w.heap.size w wc))
  case first =>
    have H := HC2.out
    clear HC2
    by_cases c4 : a0 ≥ 1
    · rw [if_pos c4] at H
      have c4b0 : decide (1 ≤ a0) = true := decide_eq_true c4
      clear c4
      (first | rw [c4b0] | (simp only [i64_w, i32_w]; rw [c4b0]) | skip)
      have H' := Aside0.mk H
      clear H
      go_wp2
      go_meet
      case rel => exact ⟨_, (decide (a0 ≤ 19)), (by first | rfl | (simp; done) | (simp [*]; done)), H', ⟨by first | omega | exact Nat.le_refl _⟩, ⟨by (with_reducible repeat (first | refine blk_drewN ?_ _ | refine blk_drew ?_ | refine blk_alloc ?_ _)); exact BK160.out⟩, ⟨by repeat (first | (with_reducible first | exact HB.out | apply below_alloc | apply pw_below_drewN | apply below_drew1 | refine below_set ?_ GE160.out) | exact HB.out)⟩⟩
    · rw [if_neg c4] at H
      have c4b0 : decide (1 ≤ a0) = false := decide_eq_false c4
      clear c4
      (first | rw [c4b0] | (simp only [i64_w, i32_w]; rw [c4b0]) | skip)
      have H' := Aside0.mk H
      clear H
      go_wp2
      go_meet
      case rel => exact ⟨_, (false), (by first | rfl | (simp; done) | (simp [*]; done)), H', ⟨by first | omega | exact Nat.le_refl _⟩, ⟨by (with_reducible repeat (first | refine blk_drewN ?_ _ | refine blk_drew ?_ | refine blk_alloc ?_ _)); exact BK160.out⟩, ⟨by repeat (first | (with_reducible first | exact HB.out | apply below_alloc | apply pw_below_drewN | apply below_drew1 | refine below_set ?_ GE160.out) | exact HB.out)⟩⟩
  case rest =>
    clear HC2
    try clear p2
    try clear c3
    try clear c4
    try clear c4b0
    obtain ⟨kq, x8_1, rfl, HA, HJ1, BK160, HB⟩ := hcut
    cases kq with
    | zero => exact absurd HA.out (by simp [crucibleref02_shaped.j0])
    | succ kj1 =>
      have H := HA.out
      clear HA
      simp only [crucibleref02_shaped.j0] at H
      by_cases c5 : x8_1 = true
      · subst c5
        have H1 : (some (true, true, true, 0, false, true)) = some (r1, r2, r3, r4, r5, r6) := by rw [if_pos rfl] at H; exact H
        clear H
        have H := H1
        clear H1
        simp only [Option.some.injEq, Prod.mk.injEq] at H
        obtain ⟨rfl, rfl, rfl, rfl, rfl, rfl⟩ := H
        have hcz6_0 : wc.cell? ⟨gb160, 0, none⟩ = some (.bool false) := (blk_cell BK160.out 0).trans rfl
        have hcz6_1 : wc.cell? ⟨gb160, 1, none⟩ = some (.bool false) := (blk_cell BK160.out 1).trans rfl
        have hcz6_2 : wc.cell? ⟨gb160, 2, none⟩ = some (.bool false) := (blk_cell BK160.out 2).trans rfl
        have hcz6_3 : wc.cell? ⟨gb160, 3, none⟩ = some (.int .i64 0) := (blk_cell BK160.out 3).trans rfl
        have hcz6_4 : wc.cell? ⟨gb160, 4, none⟩ = some (.bool false) := (blk_cell BK160.out 4).trans rfl
        have hcz6_5 : wc.cell? ⟨gb160, 5, none⟩ = some (.bool false) := (blk_cell BK160.out 5).trans rfl
        have hfz6_0 := blk_frozen BK160.out 0
        have hfz6_1 := blk_frozen BK160.out 1
        have hfz6_2 := blk_frozen BK160.out 2
        have hfz6_3 := blk_frozen BK160.out 3
        have hfz6_4 := blk_frozen BK160.out 4
        have hfz6_5 := blk_frozen BK160.out 5
        go_wp2
        refine bodyPost_ret (results_cell_row rfl _ _ gb160 80 #[.bool true, .bool true, .bool true, .int .i64 0, .bool false, .bool true] (0, 0) _ rfl (by (with_reducible repeat (first | refine blk_drewN ?_ _ | refine blk_drew ?_ | refine blk_alloc ?_ _)); refine blk_put (cs := #[.bool true, .bool true, .bool true, .int .i64 0, .bool false, .bool false]) ?_ 5 _ rfl; (with_reducible repeat (first | refine blk_drewN ?_ _ | refine blk_drew ?_ | refine blk_alloc ?_ _)); refine blk_put (cs := #[.bool true, .bool true, .bool true, .int .i64 0, .bool false, .bool false]) ?_ 4 _ rfl; (with_reducible repeat (first | refine blk_drewN ?_ _ | refine blk_drew ?_ | refine blk_alloc ?_ _)); refine blk_put (cs := #[.bool true, .bool true, .bool true, .int .i64 0, .bool false, .bool false]) ?_ 3 _ rfl; (with_reducible repeat (first | refine blk_drewN ?_ _ | refine blk_drew ?_ | refine blk_alloc ?_ _)); refine blk_put (cs := #[.bool true, .bool true, .bool false, .int .i64 0, .bool false, .bool false]) ?_ 2 _ rfl; (with_reducible repeat (first | refine blk_drewN ?_ _ | refine blk_drew ?_ | refine blk_alloc ?_ _)); refine blk_put (cs := #[.bool true, .bool false, .bool false, .int .i64 0, .bool false, .bool false]) ?_ 1 _ rfl; (with_reducible repeat (first | refine blk_drewN ?_ _ | refine blk_drew ?_ | refine blk_alloc ?_ _)); refine blk_put (cs := #[.bool false, .bool false, .bool false, .int .i64 0, .bool false, .bool false]) ?_ 0 _ rfl; (with_reducible repeat (first | refine blk_drewN ?_ _ | refine blk_drew ?_ | refine blk_alloc ?_ _)); exact BK160.out) Try.underlying80 rfl (by kernel_rfl)) rfl ?_
        exact ⟨by first | rfl | (simp [errW_none, errW_some] <;> rfl) | (simp [*, errW_none, errW_some] <;> rfl), by repeat (first | (with_reducible first | exact HB.out | apply below_alloc | apply pw_below_drewN | apply below_drew1 | refine below_set ?_ GE160.out) | exact HB.out)⟩
      · replace c5 := Bool.eq_false_iff.mpr c5
        subst c5
        have H1 : (if a0 = 32 then (crucibleref02_shaped.j1 kj1 a0 (a0 == 32)) else (if a0 = 35 then (crucibleref02_shaped.j1 kj1 a0 (a0 == 35)) else (if a0 = 36 then (crucibleref02_shaped.j1 kj1 a0 (a0 == 36)) else (if a0 = 37 then (crucibleref02_shaped.j1 kj1 a0 (a0 == 37)) else (crucibleref02_shaped.j1 kj1 a0 (a0 == 38)))))) = some (r1, r2, r3, r4, r5, r6) := by rw [if_neg (show ¬ (false = true) by decide)] at H; exact H
        clear H
        have H := H1
        clear H1
        have HC7 := Aside0.mk H
        clear H
        go_upto_if 11 with (fail)
        go_cut [11] (fun v11 wc => ∃ (kq : Nat) (x11_6 : Bool), v11 = .bool x11_6 ∧ Aside0 (crucibleref02_shaped.j1 kq a0 x11_6 = some (r1, r2, r3, r4, r5, r6)) ∧ Aside0 (kq ≤ kj1) ∧ Aside0 (wc.heap[gb160]? = some (.cells #[.bool false, .bool false, .bool false, .int .i64 0, .bool false, .bool false] 80 (0, 0))) ∧ Aside0 (Below w.heap.size w wc))
        case first =>
          have H := HC7.out
          clear HC7
          by_cases c8 : a0 = 32
          · rw [if_pos c8] at H
            have c8b0 : (a0 == 32) = true := beq_iff_eq.mpr c8
            have c8b1 : (a0 != 32) = false := bne_eq_false_iff_eq.mpr c8
            clear c8
            (first | rw [c8b0] | (simp only [i64_w, i32_w]; rw [c8b0]) | skip)
            have H' := Aside0.mk H
            clear H
            go_wp2
            go_meet
            case rel => exact ⟨_, ((a0 == 32)), (by first | rfl | (simp; done) | (simp [*]; done)), H', ⟨by have := HJ1.out; first | omega | exact Nat.le_refl _⟩, ⟨by (with_reducible repeat (first | refine blk_drewN ?_ _ | refine blk_drew ?_ | refine blk_alloc ?_ _)); exact BK160.out⟩, ⟨by repeat (first | (with_reducible first | exact HB.out | apply below_alloc | apply pw_below_drewN | apply below_drew1 | refine below_set ?_ GE160.out) | exact HB.out)⟩⟩
          · rw [if_neg c8] at H
            have c8b0 : (a0 == 32) = false := beq_eq_false_iff_ne.mpr c8
            have c8b1 : (a0 != 32) = true := bne_iff_ne.mpr c8
            (first | rw [c8b0] | (simp only [i64_w, i32_w]; rw [c8b0]) | skip)
            by_cases c9 : a0 = 35
            · rw [if_pos c9] at H
              have c9b0 : (a0 == 35) = true := beq_iff_eq.mpr c9
              have c9b1 : (a0 != 35) = false := bne_eq_false_iff_eq.mpr c9
              clear c9
              have H' := Aside0.mk H
              clear H
              go_wp2
              go_meet
              case rel => exact ⟨_, ((a0 == 35)), (by first | rfl | (simp; done) | (simp [*]; done)), H', ⟨by have := HJ1.out; first | omega | exact Nat.le_refl _⟩, ⟨by (with_reducible repeat (first | refine blk_drewN ?_ _ | refine blk_drew ?_ | refine blk_alloc ?_ _)); exact BK160.out⟩, ⟨by repeat (first | (with_reducible first | exact HB.out | apply below_alloc | apply pw_below_drewN | apply below_drew1 | refine below_set ?_ GE160.out) | exact HB.out)⟩⟩
            · rw [if_neg c9] at H
              have c9b0 : (a0 == 35) = false := beq_eq_false_iff_ne.mpr c9
              have c9b1 : (a0 != 35) = true := bne_iff_ne.mpr c9
              by_cases c10 : a0 = 36
              · rw [if_pos c10] at H
                have c10b0 : (a0 == 36) = true := beq_iff_eq.mpr c10
                have c10b1 : (a0 != 36) = false := bne_eq_false_iff_eq.mpr c10
                clear c10
                have H' := Aside0.mk H
                clear H
                go_wp2
                go_meet
                case rel => exact ⟨_, ((a0 == 36)), (by first | rfl | (simp; done) | (simp [*]; done)), H', ⟨by have := HJ1.out; first | omega | exact Nat.le_refl _⟩, ⟨by (with_reducible repeat (first | refine blk_drewN ?_ _ | refine blk_drew ?_ | refine blk_alloc ?_ _)); exact BK160.out⟩, ⟨by repeat (first | (with_reducible first | exact HB.out | apply below_alloc | apply pw_below_drewN | apply below_drew1 | refine below_set ?_ GE160.out) | exact HB.out)⟩⟩
              · rw [if_neg c10] at H
                have c10b0 : (a0 == 36) = false := beq_eq_false_iff_ne.mpr c10
                have c10b1 : (a0 != 36) = true := bne_iff_ne.mpr c10
                by_cases c11 : a0 = 37
                · rw [if_pos c11] at H
                  have c11b0 : (a0 == 37) = true := beq_iff_eq.mpr c11
                  have c11b1 : (a0 != 37) = false := bne_eq_false_iff_eq.mpr c11
                  clear c11
                  have H' := Aside0.mk H
                  clear H
                  go_wp2
                  go_meet
                  case rel => exact ⟨_, ((a0 == 37)), (by first | rfl | (simp; done) | (simp [*]; done)), H', ⟨by have := HJ1.out; first | omega | exact Nat.le_refl _⟩, ⟨by (with_reducible repeat (first | refine blk_drewN ?_ _ | refine blk_drew ?_ | refine blk_alloc ?_ _)); exact BK160.out⟩, ⟨by repeat (first | (with_reducible first | exact HB.out | apply below_alloc | apply pw_below_drewN | apply below_drew1 | refine below_set ?_ GE160.out) | exact HB.out)⟩⟩
                · rw [if_neg c11] at H
                  have c11b0 : (a0 == 37) = false := beq_eq_false_iff_ne.mpr c11
                  have c11b1 : (a0 != 37) = true := bne_iff_ne.mpr c11
                  have H' := Aside0.mk H
                  clear H
                  go_wp2
                  go_meet
                  case rel => exact ⟨_, ((a0 == 38)), (by first | rfl | (simp; done) | (simp [*]; done)), H', ⟨by have := HJ1.out; first | omega | exact Nat.le_refl _⟩, ⟨by (with_reducible repeat (first | refine blk_drewN ?_ _ | refine blk_drew ?_ | refine blk_alloc ?_ _)); exact BK160.out⟩, ⟨by repeat (first | (with_reducible first | exact HB.out | apply below_alloc | apply pw_below_drewN | apply below_drew1 | refine below_set ?_ GE160.out) | exact HB.out)⟩⟩
        case rest =>
          clear HC7
          try clear c1
          try clear p2
          try clear c3
          try clear c4
          try clear c4b0
          try clear c5
          try clear c8
          try clear c8b0
          try clear c8b1
          try clear c9
          try clear c9b0
          try clear c9b1
          try clear c10
          try clear c10b0
          try clear c10b1
          try clear c11
          try clear c11b0
          try clear c11b1
          try clear hcz6_0
          try clear hcz6_1
          try clear hcz6_2
          try clear hcz6_3
          try clear hcz6_4
          try clear hcz6_5
          try clear hfz6_0
          try clear hfz6_1
          try clear hfz6_2
          try clear hfz6_3
          try clear hfz6_4
          try clear hfz6_5
          try clear p2
          obtain ⟨kq, x11_6, rfl, HA, HJ6, BK160, HB⟩ := hcut
          cases kq with
          | zero => exact absurd HA.out (by simp [crucibleref02_shaped.j1])
          | succ kj6 =>
            have H := HA.out
            clear HA
            simp only [crucibleref02_shaped.j1] at H
            by_cases c12 : x11_6 = true
            · subst c12
              have H1 : (some (true, true, false, 16, true, true)) = some (r1, r2, r3, r4, r5, r6) := by rw [if_pos rfl] at H; exact H
              clear H
              have H := H1
              clear H1
              simp only [Option.some.injEq, Prod.mk.injEq] at H
              obtain ⟨rfl, rfl, rfl, rfl, rfl, rfl⟩ := H
              have hcz13_0 : wc.cell? ⟨gb160, 0, none⟩ = some (.bool false) := (blk_cell BK160.out 0).trans rfl
              have hcz13_1 : wc.cell? ⟨gb160, 1, none⟩ = some (.bool false) := (blk_cell BK160.out 1).trans rfl
              have hcz13_2 : wc.cell? ⟨gb160, 2, none⟩ = some (.bool false) := (blk_cell BK160.out 2).trans rfl
              have hcz13_3 : wc.cell? ⟨gb160, 3, none⟩ = some (.int .i64 0) := (blk_cell BK160.out 3).trans rfl
              have hcz13_4 : wc.cell? ⟨gb160, 4, none⟩ = some (.bool false) := (blk_cell BK160.out 4).trans rfl
              have hcz13_5 : wc.cell? ⟨gb160, 5, none⟩ = some (.bool false) := (blk_cell BK160.out 5).trans rfl
              have hfz13_0 := blk_frozen BK160.out 0
              have hfz13_1 := blk_frozen BK160.out 1
              have hfz13_2 := blk_frozen BK160.out 2
              have hfz13_3 := blk_frozen BK160.out 3
              have hfz13_4 := blk_frozen BK160.out 4
              have hfz13_5 := blk_frozen BK160.out 5
              go_wp2
              refine bodyPost_ret (results_cell_row rfl _ _ gb160 80 #[.bool true, .bool true, .bool false, .int .i64 16, .bool true, .bool true] (0, 0) _ rfl (by (with_reducible repeat (first | refine blk_drewN ?_ _ | refine blk_drew ?_ | refine blk_alloc ?_ _)); refine blk_put (cs := #[.bool true, .bool true, .bool false, .int .i64 16, .bool true, .bool false]) ?_ 5 _ rfl; (with_reducible repeat (first | refine blk_drewN ?_ _ | refine blk_drew ?_ | refine blk_alloc ?_ _)); refine blk_put (cs := #[.bool true, .bool true, .bool false, .int .i64 16, .bool false, .bool false]) ?_ 4 _ rfl; (with_reducible repeat (first | refine blk_drewN ?_ _ | refine blk_drew ?_ | refine blk_alloc ?_ _)); refine blk_put (cs := #[.bool true, .bool true, .bool false, .int .i64 0, .bool false, .bool false]) ?_ 3 _ rfl; (with_reducible repeat (first | refine blk_drewN ?_ _ | refine blk_drew ?_ | refine blk_alloc ?_ _)); refine blk_put (cs := #[.bool true, .bool true, .bool false, .int .i64 0, .bool false, .bool false]) ?_ 2 _ rfl; (with_reducible repeat (first | refine blk_drewN ?_ _ | refine blk_drew ?_ | refine blk_alloc ?_ _)); refine blk_put (cs := #[.bool true, .bool false, .bool false, .int .i64 0, .bool false, .bool false]) ?_ 1 _ rfl; (with_reducible repeat (first | refine blk_drewN ?_ _ | refine blk_drew ?_ | refine blk_alloc ?_ _)); refine blk_put (cs := #[.bool false, .bool false, .bool false, .int .i64 0, .bool false, .bool false]) ?_ 0 _ rfl; (with_reducible repeat (first | refine blk_drewN ?_ _ | refine blk_drew ?_ | refine blk_alloc ?_ _)); exact BK160.out) Try.underlying80 rfl (by kernel_rfl)) rfl ?_
              exact ⟨by first | rfl | (simp [errW_none, errW_some] <;> rfl) | (simp [*, errW_none, errW_some] <;> rfl), by repeat (first | (with_reducible first | exact HB.out | apply below_alloc | apply pw_below_drewN | apply below_drew1 | refine below_set ?_ GE160.out) | exact HB.out)⟩
            · replace c12 := Bool.eq_false_iff.mpr c12
              subst c12
              have H1 : (if a0 = 33 then (some (true, false, false, 16, true, true)) else (if a0 = 34 then (some (true, false, false, 16, false, true)) else (if a0 = 39 then (crucibleref02_shaped.j2 kj6 a0 (a0 == 39)) else (crucibleref02_shaped.j2 kj6 a0 (a0 == 40))))) = some (r1, r2, r3, r4, r5, r6) := by rw [if_neg (show ¬ (false = true) by decide)] at H; exact H
              clear H
              have H := H1
              clear H1
              by_cases c14 : a0 = 33
              · rw [if_pos c14] at H
                have c14b0 : (a0 == 33) = true := beq_iff_eq.mpr c14
                have c14b1 : (a0 != 33) = false := bne_eq_false_iff_eq.mpr c14
                clear c14
                simp only [Option.some.injEq, Prod.mk.injEq] at H
                obtain ⟨rfl, rfl, rfl, rfl, rfl, rfl⟩ := H
                have hcz15_0 : wc.cell? ⟨gb160, 0, none⟩ = some (.bool false) := (blk_cell BK160.out 0).trans rfl
                have hcz15_1 : wc.cell? ⟨gb160, 1, none⟩ = some (.bool false) := (blk_cell BK160.out 1).trans rfl
                have hcz15_2 : wc.cell? ⟨gb160, 2, none⟩ = some (.bool false) := (blk_cell BK160.out 2).trans rfl
                have hcz15_3 : wc.cell? ⟨gb160, 3, none⟩ = some (.int .i64 0) := (blk_cell BK160.out 3).trans rfl
                have hcz15_4 : wc.cell? ⟨gb160, 4, none⟩ = some (.bool false) := (blk_cell BK160.out 4).trans rfl
                have hcz15_5 : wc.cell? ⟨gb160, 5, none⟩ = some (.bool false) := (blk_cell BK160.out 5).trans rfl
                have hfz15_0 := blk_frozen BK160.out 0
                have hfz15_1 := blk_frozen BK160.out 1
                have hfz15_2 := blk_frozen BK160.out 2
                have hfz15_3 := blk_frozen BK160.out 3
                have hfz15_4 := blk_frozen BK160.out 4
                have hfz15_5 := blk_frozen BK160.out 5
                go_wp2
                refine bodyPost_ret (results_cell_row rfl _ _ gb160 80 #[.bool true, .bool false, .bool false, .int .i64 16, .bool true, .bool true] (0, 0) _ rfl (by (with_reducible repeat (first | refine blk_drewN ?_ _ | refine blk_drew ?_ | refine blk_alloc ?_ _)); refine blk_put (cs := #[.bool true, .bool false, .bool false, .int .i64 16, .bool true, .bool false]) ?_ 5 _ rfl; (with_reducible repeat (first | refine blk_drewN ?_ _ | refine blk_drew ?_ | refine blk_alloc ?_ _)); refine blk_put (cs := #[.bool true, .bool false, .bool false, .int .i64 16, .bool false, .bool false]) ?_ 4 _ rfl; (with_reducible repeat (first | refine blk_drewN ?_ _ | refine blk_drew ?_ | refine blk_alloc ?_ _)); refine blk_put (cs := #[.bool true, .bool false, .bool false, .int .i64 0, .bool false, .bool false]) ?_ 3 _ rfl; (with_reducible repeat (first | refine blk_drewN ?_ _ | refine blk_drew ?_ | refine blk_alloc ?_ _)); refine blk_put (cs := #[.bool true, .bool false, .bool false, .int .i64 0, .bool false, .bool false]) ?_ 2 _ rfl; (with_reducible repeat (first | refine blk_drewN ?_ _ | refine blk_drew ?_ | refine blk_alloc ?_ _)); refine blk_put (cs := #[.bool true, .bool false, .bool false, .int .i64 0, .bool false, .bool false]) ?_ 1 _ rfl; (with_reducible repeat (first | refine blk_drewN ?_ _ | refine blk_drew ?_ | refine blk_alloc ?_ _)); refine blk_put (cs := #[.bool false, .bool false, .bool false, .int .i64 0, .bool false, .bool false]) ?_ 0 _ rfl; (with_reducible repeat (first | refine blk_drewN ?_ _ | refine blk_drew ?_ | refine blk_alloc ?_ _)); exact BK160.out) Try.underlying80 rfl (by kernel_rfl)) rfl ?_
                exact ⟨by first | rfl | (simp [errW_none, errW_some] <;> rfl) | (simp [*, errW_none, errW_some] <;> rfl), by repeat (first | (with_reducible first | exact HB.out | apply below_alloc | apply pw_below_drewN | apply below_drew1 | refine below_set ?_ GE160.out) | exact HB.out)⟩
              · rw [if_neg c14] at H
                have c14b0 : (a0 == 33) = false := beq_eq_false_iff_ne.mpr c14
                have c14b1 : (a0 != 33) = true := bne_iff_ne.mpr c14
                by_cases c16 : a0 = 34
                · rw [if_pos c16] at H
                  have c16b0 : (a0 == 34) = true := beq_iff_eq.mpr c16
                  have c16b1 : (a0 != 34) = false := bne_eq_false_iff_eq.mpr c16
                  clear c16
                  simp only [Option.some.injEq, Prod.mk.injEq] at H
                  obtain ⟨rfl, rfl, rfl, rfl, rfl, rfl⟩ := H
                  have hcz17_0 : wc.cell? ⟨gb160, 0, none⟩ = some (.bool false) := (blk_cell BK160.out 0).trans rfl
                  have hcz17_1 : wc.cell? ⟨gb160, 1, none⟩ = some (.bool false) := (blk_cell BK160.out 1).trans rfl
                  have hcz17_2 : wc.cell? ⟨gb160, 2, none⟩ = some (.bool false) := (blk_cell BK160.out 2).trans rfl
                  have hcz17_3 : wc.cell? ⟨gb160, 3, none⟩ = some (.int .i64 0) := (blk_cell BK160.out 3).trans rfl
                  have hcz17_4 : wc.cell? ⟨gb160, 4, none⟩ = some (.bool false) := (blk_cell BK160.out 4).trans rfl
                  have hcz17_5 : wc.cell? ⟨gb160, 5, none⟩ = some (.bool false) := (blk_cell BK160.out 5).trans rfl
                  have hfz17_0 := blk_frozen BK160.out 0
                  have hfz17_1 := blk_frozen BK160.out 1
                  have hfz17_2 := blk_frozen BK160.out 2
                  have hfz17_3 := blk_frozen BK160.out 3
                  have hfz17_4 := blk_frozen BK160.out 4
                  have hfz17_5 := blk_frozen BK160.out 5
                  go_wp2
                  refine bodyPost_ret (results_cell_row rfl _ _ gb160 80 #[.bool true, .bool false, .bool false, .int .i64 16, .bool false, .bool true] (0, 0) _ rfl (by (with_reducible repeat (first | refine blk_drewN ?_ _ | refine blk_drew ?_ | refine blk_alloc ?_ _)); refine blk_put (cs := #[.bool true, .bool false, .bool false, .int .i64 16, .bool false, .bool false]) ?_ 5 _ rfl; (with_reducible repeat (first | refine blk_drewN ?_ _ | refine blk_drew ?_ | refine blk_alloc ?_ _)); refine blk_put (cs := #[.bool true, .bool false, .bool false, .int .i64 16, .bool false, .bool false]) ?_ 4 _ rfl; (with_reducible repeat (first | refine blk_drewN ?_ _ | refine blk_drew ?_ | refine blk_alloc ?_ _)); refine blk_put (cs := #[.bool true, .bool false, .bool false, .int .i64 0, .bool false, .bool false]) ?_ 3 _ rfl; (with_reducible repeat (first | refine blk_drewN ?_ _ | refine blk_drew ?_ | refine blk_alloc ?_ _)); refine blk_put (cs := #[.bool true, .bool false, .bool false, .int .i64 0, .bool false, .bool false]) ?_ 2 _ rfl; (with_reducible repeat (first | refine blk_drewN ?_ _ | refine blk_drew ?_ | refine blk_alloc ?_ _)); refine blk_put (cs := #[.bool true, .bool false, .bool false, .int .i64 0, .bool false, .bool false]) ?_ 1 _ rfl; (with_reducible repeat (first | refine blk_drewN ?_ _ | refine blk_drew ?_ | refine blk_alloc ?_ _)); refine blk_put (cs := #[.bool false, .bool false, .bool false, .int .i64 0, .bool false, .bool false]) ?_ 0 _ rfl; (with_reducible repeat (first | refine blk_drewN ?_ _ | refine blk_drew ?_ | refine blk_alloc ?_ _)); exact BK160.out) Try.underlying80 rfl (by kernel_rfl)) rfl ?_
                  exact ⟨by first | rfl | (simp [errW_none, errW_some] <;> rfl) | (simp [*, errW_none, errW_some] <;> rfl), by repeat (first | (with_reducible first | exact HB.out | apply below_alloc | apply pw_below_drewN | apply below_drew1 | refine below_set ?_ GE160.out) | exact HB.out)⟩
                · rw [if_neg c16] at H
                  have c16b0 : (a0 == 34) = false := beq_eq_false_iff_ne.mpr c16
                  have c16b1 : (a0 != 34) = true := bne_iff_ne.mpr c16
                  have HC18 := Aside0.mk H
                  clear H
                  go_upto_if 24 with (fail)
                  go_cut [24] (fun v24 wc => ∃ (kq : Nat) (x24_17 : Bool), v24 = .bool x24_17 ∧ Aside0 (crucibleref02_shaped.j2 kq a0 x24_17 = some (r1, r2, r3, r4, r5, r6)) ∧ Aside0 (kq ≤ kj6) ∧ Aside0 (wc.heap[gb160]? = some (.cells #[.bool false, .bool false, .bool false, .int .i64 0, .bool false, .bool false] 80 (0, 0))) ∧ Aside0 (Below w.heap.size w wc))
                  case first =>
                    have H := HC18.out
                    clear HC18
                    by_cases c19 : a0 = 39
                    · rw [if_pos c19] at H
                      have c19b0 : (a0 == 39) = true := beq_iff_eq.mpr c19
                      have c19b1 : (a0 != 39) = false := bne_eq_false_iff_eq.mpr c19
                      clear c19
                      (first | rw [c19b0] | (simp only [i64_w, i32_w]; rw [c19b0]) | skip)
                      have H' := Aside0.mk H
                      clear H
                      go_wp2
                      go_meet
                      case rel => exact ⟨_, ((a0 == 39)), (by first | rfl | (simp; done) | (simp [*]; done)), H', ⟨by have := HJ1.out; have := HJ6.out; first | omega | exact Nat.le_refl _⟩, ⟨by (with_reducible repeat (first | refine blk_drewN ?_ _ | refine blk_drew ?_ | refine blk_alloc ?_ _)); exact BK160.out⟩, ⟨by repeat (first | (with_reducible first | exact HB.out | apply below_alloc | apply pw_below_drewN | apply below_drew1 | refine below_set ?_ GE160.out) | exact HB.out)⟩⟩
                    · rw [if_neg c19] at H
                      have c19b0 : (a0 == 39) = false := beq_eq_false_iff_ne.mpr c19
                      have c19b1 : (a0 != 39) = true := bne_iff_ne.mpr c19
                      (first | rw [c19b0] | (simp only [i64_w, i32_w]; rw [c19b0]) | skip)
                      have H' := Aside0.mk H
                      clear H
                      go_wp2
                      go_meet
                      case rel => exact ⟨_, ((a0 == 40)), (by first | rfl | (simp; done) | (simp [*]; done)), H', ⟨by have := HJ1.out; have := HJ6.out; first | omega | exact Nat.le_refl _⟩, ⟨by (with_reducible repeat (first | refine blk_drewN ?_ _ | refine blk_drew ?_ | refine blk_alloc ?_ _)); exact BK160.out⟩, ⟨by repeat (first | (with_reducible first | exact HB.out | apply below_alloc | apply pw_below_drewN | apply below_drew1 | refine below_set ?_ GE160.out) | exact HB.out)⟩⟩
                  case rest =>
                    clear HC18
                    try clear c1
                    try clear p2
                    try clear c3
                    try clear c4
                    try clear c4b0
                    try clear c5
                    try clear c8
                    try clear c8b0
                    try clear c8b1
                    try clear c9
                    try clear c9b0
                    try clear c9b1
                    try clear c10
                    try clear c10b0
                    try clear c10b1
                    try clear c11
                    try clear c11b0
                    try clear c11b1
                    try clear c12
                    try clear c14
                    try clear c14b0
                    try clear c14b1
                    try clear c16
                    try clear c16b0
                    try clear c16b1
                    try clear c19
                    try clear c19b0
                    try clear c19b1
                    try clear hcz13_0
                    try clear hcz13_1
                    try clear hcz13_2
                    try clear hcz13_3
                    try clear hcz13_4
                    try clear hcz13_5
                    try clear hcz15_0
                    try clear hcz15_1
                    try clear hcz15_2
                    try clear hcz15_3
                    try clear hcz15_4
                    try clear hcz15_5
                    try clear hcz17_0
                    try clear hcz17_1
                    try clear hcz17_2
                    try clear hcz17_3
                    try clear hcz17_4
                    try clear hcz17_5
                    try clear hcz6_0
                    try clear hcz6_1
                    try clear hcz6_2
                    try clear hcz6_3
                    try clear hcz6_4
                    try clear hcz6_5
                    try clear hfz13_0
                    try clear hfz13_1
                    try clear hfz13_2
                    try clear hfz13_3
                    try clear hfz13_4
                    try clear hfz13_5
                    try clear hfz15_0
                    try clear hfz15_1
                    try clear hfz15_2
                    try clear hfz15_3
                    try clear hfz15_4
                    try clear hfz15_5
                    try clear hfz17_0
                    try clear hfz17_1
                    try clear hfz17_2
                    try clear hfz17_3
                    try clear hfz17_4
                    try clear hfz17_5
                    try clear hfz6_0
                    try clear hfz6_1
                    try clear hfz6_2
                    try clear hfz6_3
                    try clear hfz6_4
                    try clear hfz6_5
                    try clear p2
                    obtain ⟨kq, x24_17, rfl, HA, HJ17, BK160, HB⟩ := hcut
                    cases kq with
                    | zero => exact absurd HA.out (by simp [crucibleref02_shaped.j2])
                    | succ kj17 =>
                      have H := HA.out
                      clear HA
                      simp only [crucibleref02_shaped.j2] at H
                      by_cases c20 : x24_17 = true
                      · subst c20
                        have H1 : (some (false, true, false, 16, true, true)) = some (r1, r2, r3, r4, r5, r6) := by rw [if_pos rfl] at H; exact H
                        clear H
                        have H := H1
                        clear H1
                        simp only [Option.some.injEq, Prod.mk.injEq] at H
                        obtain ⟨rfl, rfl, rfl, rfl, rfl, rfl⟩ := H
                        have hcz21_0 : wc.cell? ⟨gb160, 0, none⟩ = some (.bool false) := (blk_cell BK160.out 0).trans rfl
                        have hcz21_1 : wc.cell? ⟨gb160, 1, none⟩ = some (.bool false) := (blk_cell BK160.out 1).trans rfl
                        have hcz21_2 : wc.cell? ⟨gb160, 2, none⟩ = some (.bool false) := (blk_cell BK160.out 2).trans rfl
                        have hcz21_3 : wc.cell? ⟨gb160, 3, none⟩ = some (.int .i64 0) := (blk_cell BK160.out 3).trans rfl
                        have hcz21_4 : wc.cell? ⟨gb160, 4, none⟩ = some (.bool false) := (blk_cell BK160.out 4).trans rfl
                        have hcz21_5 : wc.cell? ⟨gb160, 5, none⟩ = some (.bool false) := (blk_cell BK160.out 5).trans rfl
                        have hfz21_0 := blk_frozen BK160.out 0
                        have hfz21_1 := blk_frozen BK160.out 1
                        have hfz21_2 := blk_frozen BK160.out 2
                        have hfz21_3 := blk_frozen BK160.out 3
                        have hfz21_4 := blk_frozen BK160.out 4
                        have hfz21_5 := blk_frozen BK160.out 5
                        go_wp2
                        refine bodyPost_ret (results_cell_row rfl _ _ gb160 80 #[.bool false, .bool true, .bool false, .int .i64 16, .bool true, .bool true] (0, 0) _ rfl (by (with_reducible repeat (first | refine blk_drewN ?_ _ | refine blk_drew ?_ | refine blk_alloc ?_ _)); refine blk_put (cs := #[.bool false, .bool true, .bool false, .int .i64 16, .bool true, .bool false]) ?_ 5 _ rfl; (with_reducible repeat (first | refine blk_drewN ?_ _ | refine blk_drew ?_ | refine blk_alloc ?_ _)); refine blk_put (cs := #[.bool false, .bool true, .bool false, .int .i64 16, .bool false, .bool false]) ?_ 4 _ rfl; (with_reducible repeat (first | refine blk_drewN ?_ _ | refine blk_drew ?_ | refine blk_alloc ?_ _)); refine blk_put (cs := #[.bool false, .bool true, .bool false, .int .i64 0, .bool false, .bool false]) ?_ 3 _ rfl; (with_reducible repeat (first | refine blk_drewN ?_ _ | refine blk_drew ?_ | refine blk_alloc ?_ _)); refine blk_put (cs := #[.bool false, .bool true, .bool false, .int .i64 0, .bool false, .bool false]) ?_ 2 _ rfl; (with_reducible repeat (first | refine blk_drewN ?_ _ | refine blk_drew ?_ | refine blk_alloc ?_ _)); refine blk_put (cs := #[.bool false, .bool false, .bool false, .int .i64 0, .bool false, .bool false]) ?_ 1 _ rfl; (with_reducible repeat (first | refine blk_drewN ?_ _ | refine blk_drew ?_ | refine blk_alloc ?_ _)); refine blk_put (cs := #[.bool false, .bool false, .bool false, .int .i64 0, .bool false, .bool false]) ?_ 0 _ rfl; (with_reducible repeat (first | refine blk_drewN ?_ _ | refine blk_drew ?_ | refine blk_alloc ?_ _)); exact BK160.out) Try.underlying80 rfl (by kernel_rfl)) rfl ?_
                        exact ⟨by first | rfl | (simp [errW_none, errW_some] <;> rfl) | (simp [*, errW_none, errW_some] <;> rfl), by repeat (first | (with_reducible first | exact HB.out | apply below_alloc | apply pw_below_drewN | apply below_drew1 | refine below_set ?_ GE160.out) | exact HB.out)⟩
                      · replace c20 := Bool.eq_false_iff.mpr c20
                        subst c20
                        have H1 : (if a0 = 41 then (crucibleref02_shaped.j3 kj17 a0 (a0 == 41)) else (crucibleref02_shaped.j3 kj17 a0 (a0 == 42))) = some (r1, r2, r3, r4, r5, r6) := by rw [if_neg (show ¬ (false = true) by decide)] at H; exact H
                        clear H
                        have H := H1
                        clear H1
                        have HC22 := Aside0.mk H
                        clear H
                        go_upto_if 28 with (fail)
                        go_cut [28] (fun v28 wc => ∃ (kq : Nat) (x28_21 : Bool), v28 = .bool x28_21 ∧ Aside0 (crucibleref02_shaped.j3 kq a0 x28_21 = some (r1, r2, r3, r4, r5, r6)) ∧ Aside0 (kq ≤ kj17) ∧ Aside0 (wc.heap[gb160]? = some (.cells #[.bool false, .bool false, .bool false, .int .i64 0, .bool false, .bool false] 80 (0, 0))) ∧ Aside0 (Below w.heap.size w wc))
                        case first =>
                          have H := HC22.out
                          clear HC22
                          by_cases c23 : a0 = 41
                          · rw [if_pos c23] at H
                            have c23b0 : (a0 == 41) = true := beq_iff_eq.mpr c23
                            have c23b1 : (a0 != 41) = false := bne_eq_false_iff_eq.mpr c23
                            clear c23
                            (first | rw [c23b0] | (simp only [i64_w, i32_w]; rw [c23b0]) | skip)
                            have H' := Aside0.mk H
                            clear H
                            go_wp2
                            go_meet
                            case rel => exact ⟨_, ((a0 == 41)), (by first | rfl | (simp; done) | (simp [*]; done)), H', ⟨by have := HJ1.out; have := HJ6.out; have := HJ17.out; first | omega | exact Nat.le_refl _⟩, ⟨by (with_reducible repeat (first | refine blk_drewN ?_ _ | refine blk_drew ?_ | refine blk_alloc ?_ _)); exact BK160.out⟩, ⟨by repeat (first | (with_reducible first | exact HB.out | apply below_alloc | apply pw_below_drewN | apply below_drew1 | refine below_set ?_ GE160.out) | exact HB.out)⟩⟩
                          · rw [if_neg c23] at H
                            have c23b0 : (a0 == 41) = false := beq_eq_false_iff_ne.mpr c23
                            have c23b1 : (a0 != 41) = true := bne_iff_ne.mpr c23
                            (first | rw [c23b0] | (simp only [i64_w, i32_w]; rw [c23b0]) | skip)
                            have H' := Aside0.mk H
                            clear H
                            go_wp2
                            go_meet
                            case rel => exact ⟨_, ((a0 == 42)), (by first | rfl | (simp; done) | (simp [*]; done)), H', ⟨by have := HJ1.out; have := HJ6.out; have := HJ17.out; first | omega | exact Nat.le_refl _⟩, ⟨by (with_reducible repeat (first | refine blk_drewN ?_ _ | refine blk_drew ?_ | refine blk_alloc ?_ _)); exact BK160.out⟩, ⟨by repeat (first | (with_reducible first | exact HB.out | apply below_alloc | apply pw_below_drewN | apply below_drew1 | refine below_set ?_ GE160.out) | exact HB.out)⟩⟩
                        case rest =>
                          clear HC22
                          try clear c1
                          try clear c2
                          try clear p2
                          try clear c3
                          try clear c4
                          try clear c4b0
                          try clear c5
                          try clear c8
                          try clear c8b0
                          try clear c8b1
                          try clear c9
                          try clear c9b0
                          try clear c9b1
                          try clear c10
                          try clear c10b0
                          try clear c10b1
                          try clear c11
                          try clear c11b0
                          try clear c11b1
                          try clear c12
                          try clear c14
                          try clear c14b0
                          try clear c14b1
                          try clear c16
                          try clear c16b0
                          try clear c16b1
                          try clear c19
                          try clear c19b0
                          try clear c19b1
                          try clear c20
                          try clear c23
                          try clear c23b0
                          try clear c23b1
                          try clear hcz13_0
                          try clear hcz13_1
                          try clear hcz13_2
                          try clear hcz13_3
                          try clear hcz13_4
                          try clear hcz13_5
                          try clear hcz15_0
                          try clear hcz15_1
                          try clear hcz15_2
                          try clear hcz15_3
                          try clear hcz15_4
                          try clear hcz15_5
                          try clear hcz17_0
                          try clear hcz17_1
                          try clear hcz17_2
                          try clear hcz17_3
                          try clear hcz17_4
                          try clear hcz17_5
                          try clear hcz21_0
                          try clear hcz21_1
                          try clear hcz21_2
                          try clear hcz21_3
                          try clear hcz21_4
                          try clear hcz21_5
                          try clear hcz6_0
                          try clear hcz6_1
                          try clear hcz6_2
                          try clear hcz6_3
                          try clear hcz6_4
                          try clear hcz6_5
                          try clear hfz13_0
                          try clear hfz13_1
                          try clear hfz13_2
                          try clear hfz13_3
                          try clear hfz13_4
                          try clear hfz13_5
                          try clear hfz15_0
                          try clear hfz15_1
                          try clear hfz15_2
                          try clear hfz15_3
                          try clear hfz15_4
                          try clear hfz15_5
                          try clear hfz17_0
                          try clear hfz17_1
                          try clear hfz17_2
                          try clear hfz17_3
                          try clear hfz17_4
                          try clear hfz17_5
                          try clear hfz21_0
                          try clear hfz21_1
                          try clear hfz21_2
                          try clear hfz21_3
                          try clear hfz21_4
                          try clear hfz21_5
                          try clear hfz6_0
                          try clear hfz6_1
                          try clear hfz6_2
                          try clear hfz6_3
                          try clear hfz6_4
                          try clear hfz6_5
                          try clear p2
                          obtain ⟨kq, x28_21, rfl, HA, HJ21, BK160, HB⟩ := hcut
                          cases kq with
                          | zero => exact absurd HA.out (by simp [crucibleref02_shaped.j3])
                          | succ kj21 =>
                            have H := HA.out
                            clear HA
                            simp only [crucibleref02_shaped.j3] at H
                            by_cases c24 : x28_21 = true
                            · subst c24
                              have H1 : (some (false, false, false, 24, true, true)) = some (r1, r2, r3, r4, r5, r6) := by rw [if_pos rfl] at H; exact H
                              clear H
                              have H := H1
                              clear H1
                              simp only [Option.some.injEq, Prod.mk.injEq] at H
                              obtain ⟨rfl, rfl, rfl, rfl, rfl, rfl⟩ := H
                              have hcz25_0 : wc.cell? ⟨gb160, 0, none⟩ = some (.bool false) := (blk_cell BK160.out 0).trans rfl
                              have hcz25_1 : wc.cell? ⟨gb160, 1, none⟩ = some (.bool false) := (blk_cell BK160.out 1).trans rfl
                              have hcz25_2 : wc.cell? ⟨gb160, 2, none⟩ = some (.bool false) := (blk_cell BK160.out 2).trans rfl
                              have hcz25_3 : wc.cell? ⟨gb160, 3, none⟩ = some (.int .i64 0) := (blk_cell BK160.out 3).trans rfl
                              have hcz25_4 : wc.cell? ⟨gb160, 4, none⟩ = some (.bool false) := (blk_cell BK160.out 4).trans rfl
                              have hcz25_5 : wc.cell? ⟨gb160, 5, none⟩ = some (.bool false) := (blk_cell BK160.out 5).trans rfl
                              have hfz25_0 := blk_frozen BK160.out 0
                              have hfz25_1 := blk_frozen BK160.out 1
                              have hfz25_2 := blk_frozen BK160.out 2
                              have hfz25_3 := blk_frozen BK160.out 3
                              have hfz25_4 := blk_frozen BK160.out 4
                              have hfz25_5 := blk_frozen BK160.out 5
                              go_wp2
                              refine bodyPost_ret (results_cell_row rfl _ _ gb160 80 #[.bool false, .bool false, .bool false, .int .i64 24, .bool true, .bool true] (0, 0) _ rfl (by (with_reducible repeat (first | refine blk_drewN ?_ _ | refine blk_drew ?_ | refine blk_alloc ?_ _)); refine blk_put (cs := #[.bool false, .bool false, .bool false, .int .i64 24, .bool true, .bool false]) ?_ 5 _ rfl; (with_reducible repeat (first | refine blk_drewN ?_ _ | refine blk_drew ?_ | refine blk_alloc ?_ _)); refine blk_put (cs := #[.bool false, .bool false, .bool false, .int .i64 24, .bool false, .bool false]) ?_ 4 _ rfl; (with_reducible repeat (first | refine blk_drewN ?_ _ | refine blk_drew ?_ | refine blk_alloc ?_ _)); refine blk_put (cs := #[.bool false, .bool false, .bool false, .int .i64 0, .bool false, .bool false]) ?_ 3 _ rfl; (with_reducible repeat (first | refine blk_drewN ?_ _ | refine blk_drew ?_ | refine blk_alloc ?_ _)); refine blk_put (cs := #[.bool false, .bool false, .bool false, .int .i64 0, .bool false, .bool false]) ?_ 2 _ rfl; (with_reducible repeat (first | refine blk_drewN ?_ _ | refine blk_drew ?_ | refine blk_alloc ?_ _)); refine blk_put (cs := #[.bool false, .bool false, .bool false, .int .i64 0, .bool false, .bool false]) ?_ 1 _ rfl; (with_reducible repeat (first | refine blk_drewN ?_ _ | refine blk_drew ?_ | refine blk_alloc ?_ _)); refine blk_put (cs := #[.bool false, .bool false, .bool false, .int .i64 0, .bool false, .bool false]) ?_ 0 _ rfl; (with_reducible repeat (first | refine blk_drewN ?_ _ | refine blk_drew ?_ | refine blk_alloc ?_ _)); exact BK160.out) Try.underlying80 rfl (by kernel_rfl)) rfl ?_
                              exact ⟨by first | rfl | (simp [errW_none, errW_some] <;> rfl) | (simp [*, errW_none, errW_some] <;> rfl), by repeat (first | (with_reducible first | exact HB.out | apply below_alloc | apply pw_below_drewN | apply below_drew1 | refine below_set ?_ GE160.out) | exact HB.out)⟩
                            · replace c24 := Bool.eq_false_iff.mpr c24
                              subst c24
                              have H1 : (if a0 = 43 then (crucibleref02_shaped.j4 kj21 a0 (a0 == 43)) else (if a0 = 45 then (crucibleref02_shaped.j4 kj21 a0 (a0 == 45)) else (crucibleref02_shaped.j4 kj21 a0 (a0 == 47)))) = some (r1, r2, r3, r4, r5, r6) := by rw [if_neg (show ¬ (false = true) by decide)] at H; exact H
                              clear H
                              have H := H1
                              clear H1
                              have HC26 := Aside0.mk H
                              clear H
                              go_upto_if 32 with (fail)
                              go_cut [32] (fun v32 wc => ∃ (kq : Nat) (x32_25 : Bool), v32 = .bool x32_25 ∧ Aside0 (crucibleref02_shaped.j4 kq a0 x32_25 = some (r1, r2, r3, r4, r5, r6)) ∧ Aside0 (kq ≤ kj21) ∧ Aside0 (wc.heap[gb160]? = some (.cells #[.bool false, .bool false, .bool false, .int .i64 0, .bool false, .bool false] 80 (0, 0))) ∧ Aside0 (Below w.heap.size w wc))
                              case first =>
                                have H := HC26.out
                                clear HC26
                                by_cases c27 : a0 = 43
                                · rw [if_pos c27] at H
                                  have c27b0 : (a0 == 43) = true := beq_iff_eq.mpr c27
                                  have c27b1 : (a0 != 43) = false := bne_eq_false_iff_eq.mpr c27
                                  clear c27
                                  (first | rw [c27b0] | (simp only [i64_w, i32_w]; rw [c27b0]) | skip)
                                  have H' := Aside0.mk H
                                  clear H
                                  go_wp2
                                  go_meet
                                  case rel => exact ⟨_, ((a0 == 43)), (by first | rfl | (simp; done) | (simp [*]; done)), H', ⟨by have := HJ1.out; have := HJ6.out; have := HJ17.out; have := HJ21.out; first | omega | exact Nat.le_refl _⟩, ⟨by (with_reducible repeat (first | refine blk_drewN ?_ _ | refine blk_drew ?_ | refine blk_alloc ?_ _)); exact BK160.out⟩, ⟨by repeat (first | (with_reducible first | exact HB.out | apply below_alloc | apply pw_below_drewN | apply below_drew1 | refine below_set ?_ GE160.out) | exact HB.out)⟩⟩
                                · rw [if_neg c27] at H
                                  have c27b0 : (a0 == 43) = false := beq_eq_false_iff_ne.mpr c27
                                  have c27b1 : (a0 != 43) = true := bne_iff_ne.mpr c27
                                  (first | rw [c27b0] | (simp only [i64_w, i32_w]; rw [c27b0]) | skip)
                                  by_cases c28 : a0 = 45
                                  · rw [if_pos c28] at H
                                    have c28b0 : (a0 == 45) = true := beq_iff_eq.mpr c28
                                    have c28b1 : (a0 != 45) = false := bne_eq_false_iff_eq.mpr c28
                                    clear c28
                                    have H' := Aside0.mk H
                                    clear H
                                    go_wp2
                                    go_meet
                                    case rel => exact ⟨_, ((a0 == 45)), (by first | rfl | (simp; done) | (simp [*]; done)), H', ⟨by have := HJ1.out; have := HJ6.out; have := HJ17.out; have := HJ21.out; first | omega | exact Nat.le_refl _⟩, ⟨by (with_reducible repeat (first | refine blk_drewN ?_ _ | refine blk_drew ?_ | refine blk_alloc ?_ _)); exact BK160.out⟩, ⟨by repeat (first | (with_reducible first | exact HB.out | apply below_alloc | apply pw_below_drewN | apply below_drew1 | refine below_set ?_ GE160.out) | exact HB.out)⟩⟩
                                  · rw [if_neg c28] at H
                                    have c28b0 : (a0 == 45) = false := beq_eq_false_iff_ne.mpr c28
                                    have c28b1 : (a0 != 45) = true := bne_iff_ne.mpr c28
                                    have H' := Aside0.mk H
                                    clear H
                                    go_wp2
                                    go_meet
                                    case rel => exact ⟨_, ((a0 == 47)), (by first | rfl | (simp; done) | (simp [*]; done)), H', ⟨by have := HJ1.out; have := HJ6.out; have := HJ17.out; have := HJ21.out; first | omega | exact Nat.le_refl _⟩, ⟨by (with_reducible repeat (first | refine blk_drewN ?_ _ | refine blk_drew ?_ | refine blk_alloc ?_ _)); exact BK160.out⟩, ⟨by repeat (first | (with_reducible first | exact HB.out | apply below_alloc | apply pw_below_drewN | apply below_drew1 | refine below_set ?_ GE160.out) | exact HB.out)⟩⟩
                              case rest =>
                                clear HC26
                                try clear c1
                                try clear c2
                                try clear p2
                                try clear c3
                                try clear c4
                                try clear c4b0
                                try clear c5
                                try clear c8
                                try clear c8b0
                                try clear c8b1
                                try clear c9
                                try clear c9b0
                                try clear c9b1
                                try clear c10
                                try clear c10b0
                                try clear c10b1
                                try clear c11
                                try clear c11b0
                                try clear c11b1
                                try clear c12
                                try clear c14
                                try clear c14b0
                                try clear c14b1
                                try clear c16
                                try clear c16b0
                                try clear c16b1
                                try clear c19
                                try clear c19b0
                                try clear c19b1
                                try clear c20
                                try clear c23
                                try clear c23b0
                                try clear c23b1
                                try clear c24
                                try clear c27
                                try clear c27b0
                                try clear c27b1
                                try clear c28
                                try clear c28b0
                                try clear c28b1
                                try clear hcz13_0
                                try clear hcz13_1
                                try clear hcz13_2
                                try clear hcz13_3
                                try clear hcz13_4
                                try clear hcz13_5
                                try clear hcz15_0
                                try clear hcz15_1
                                try clear hcz15_2
                                try clear hcz15_3
                                try clear hcz15_4
                                try clear hcz15_5
                                try clear hcz17_0
                                try clear hcz17_1
                                try clear hcz17_2
                                try clear hcz17_3
                                try clear hcz17_4
                                try clear hcz17_5
                                try clear hcz21_0
                                try clear hcz21_1
                                try clear hcz21_2
                                try clear hcz21_3
                                try clear hcz21_4
                                try clear hcz21_5
                                try clear hcz25_0
                                try clear hcz25_1
                                try clear hcz25_2
                                try clear hcz25_3
                                try clear hcz25_4
                                try clear hcz25_5
                                try clear hcz6_0
                                try clear hcz6_1
                                try clear hcz6_2
                                try clear hcz6_3
                                try clear hcz6_4
                                try clear hcz6_5
                                try clear hfz13_0
                                try clear hfz13_1
                                try clear hfz13_2
                                try clear hfz13_3
                                try clear hfz13_4
                                try clear hfz13_5
                                try clear hfz15_0
                                try clear hfz15_1
                                try clear hfz15_2
                                try clear hfz15_3
                                try clear hfz15_4
                                try clear hfz15_5
                                try clear hfz17_0
                                try clear hfz17_1
                                try clear hfz17_2
                                try clear hfz17_3
                                try clear hfz17_4
                                try clear hfz17_5
                                try clear hfz21_0
                                try clear hfz21_1
                                try clear hfz21_2
                                try clear hfz21_3
                                try clear hfz21_4
                                try clear hfz21_5
                                try clear hfz25_0
                                try clear hfz25_1
                                try clear hfz25_2
                                try clear hfz25_3
                                try clear hfz25_4
                                try clear hfz25_5
                                try clear hfz6_0
                                try clear hfz6_1
                                try clear hfz6_2
                                try clear hfz6_3
                                try clear hfz6_4
                                try clear hfz6_5
                                try clear p2
                                obtain ⟨kq, x32_25, rfl, HA, HJ25, BK160, HB⟩ := hcut
                                cases kq with
                                | zero => exact absurd HA.out (by simp [crucibleref02_shaped.j4])
                                | succ kj25 =>
                                  have H := HA.out
                                  clear HA
                                  simp only [crucibleref02_shaped.j4] at H
                                  by_cases c29 : x32_25 = true
                                  · subst c29
                                    have H1 : (some (false, true, false, 0, false, true)) = some (r1, r2, r3, r4, r5, r6) := by rw [if_pos rfl] at H; exact H
                                    clear H
                                    have H := H1
                                    clear H1
                                    simp only [Option.some.injEq, Prod.mk.injEq] at H
                                    obtain ⟨rfl, rfl, rfl, rfl, rfl, rfl⟩ := H
                                    have hcz30_0 : wc.cell? ⟨gb160, 0, none⟩ = some (.bool false) := (blk_cell BK160.out 0).trans rfl
                                    have hcz30_1 : wc.cell? ⟨gb160, 1, none⟩ = some (.bool false) := (blk_cell BK160.out 1).trans rfl
                                    have hcz30_2 : wc.cell? ⟨gb160, 2, none⟩ = some (.bool false) := (blk_cell BK160.out 2).trans rfl
                                    have hcz30_3 : wc.cell? ⟨gb160, 3, none⟩ = some (.int .i64 0) := (blk_cell BK160.out 3).trans rfl
                                    have hcz30_4 : wc.cell? ⟨gb160, 4, none⟩ = some (.bool false) := (blk_cell BK160.out 4).trans rfl
                                    have hcz30_5 : wc.cell? ⟨gb160, 5, none⟩ = some (.bool false) := (blk_cell BK160.out 5).trans rfl
                                    have hfz30_0 := blk_frozen BK160.out 0
                                    have hfz30_1 := blk_frozen BK160.out 1
                                    have hfz30_2 := blk_frozen BK160.out 2
                                    have hfz30_3 := blk_frozen BK160.out 3
                                    have hfz30_4 := blk_frozen BK160.out 4
                                    have hfz30_5 := blk_frozen BK160.out 5
                                    go_wp2
                                    refine bodyPost_ret (results_cell_row rfl _ _ gb160 80 #[.bool false, .bool true, .bool false, .int .i64 0, .bool false, .bool true] (0, 0) _ rfl (by (with_reducible repeat (first | refine blk_drewN ?_ _ | refine blk_drew ?_ | refine blk_alloc ?_ _)); refine blk_put (cs := #[.bool false, .bool true, .bool false, .int .i64 0, .bool false, .bool false]) ?_ 5 _ rfl; (with_reducible repeat (first | refine blk_drewN ?_ _ | refine blk_drew ?_ | refine blk_alloc ?_ _)); refine blk_put (cs := #[.bool false, .bool true, .bool false, .int .i64 0, .bool false, .bool false]) ?_ 4 _ rfl; (with_reducible repeat (first | refine blk_drewN ?_ _ | refine blk_drew ?_ | refine blk_alloc ?_ _)); refine blk_put (cs := #[.bool false, .bool true, .bool false, .int .i64 0, .bool false, .bool false]) ?_ 3 _ rfl; (with_reducible repeat (first | refine blk_drewN ?_ _ | refine blk_drew ?_ | refine blk_alloc ?_ _)); refine blk_put (cs := #[.bool false, .bool true, .bool false, .int .i64 0, .bool false, .bool false]) ?_ 2 _ rfl; (with_reducible repeat (first | refine blk_drewN ?_ _ | refine blk_drew ?_ | refine blk_alloc ?_ _)); refine blk_put (cs := #[.bool false, .bool false, .bool false, .int .i64 0, .bool false, .bool false]) ?_ 1 _ rfl; (with_reducible repeat (first | refine blk_drewN ?_ _ | refine blk_drew ?_ | refine blk_alloc ?_ _)); refine blk_put (cs := #[.bool false, .bool false, .bool false, .int .i64 0, .bool false, .bool false]) ?_ 0 _ rfl; (with_reducible repeat (first | refine blk_drewN ?_ _ | refine blk_drew ?_ | refine blk_alloc ?_ _)); exact BK160.out) Try.underlying80 rfl (by kernel_rfl)) rfl ?_
                                    exact ⟨by first | rfl | (simp [errW_none, errW_some] <;> rfl) | (simp [*, errW_none, errW_some] <;> rfl), by repeat (first | (with_reducible first | exact HB.out | apply below_alloc | apply pw_below_drewN | apply below_drew1 | refine below_set ?_ GE160.out) | exact HB.out)⟩
                                  · replace c29 := Bool.eq_false_iff.mpr c29
                                    subst c29
                                    have H1 : (if a0 = 44 then (some (true, false, false, 0, false, true)) else (if a0 = 46 then (some (false, false, false, 16, false, true)) else (some (false, false, false, 0, false, false)))) = some (r1, r2, r3, r4, r5, r6) := by rw [if_neg (show ¬ (false = true) by decide)] at H; exact H
                                    clear H
                                    have H := H1
                                    clear H1
                                    by_cases c31 : a0 = 44
                                    · rw [if_pos c31] at H
                                      have c31b0 : (a0 == 44) = true := beq_iff_eq.mpr c31
                                      have c31b1 : (a0 != 44) = false := bne_eq_false_iff_eq.mpr c31
                                      clear c31
                                      simp only [Option.some.injEq, Prod.mk.injEq] at H
                                      obtain ⟨rfl, rfl, rfl, rfl, rfl, rfl⟩ := H
                                      have hcz32_0 : wc.cell? ⟨gb160, 0, none⟩ = some (.bool false) := (blk_cell BK160.out 0).trans rfl
                                      have hcz32_1 : wc.cell? ⟨gb160, 1, none⟩ = some (.bool false) := (blk_cell BK160.out 1).trans rfl
                                      have hcz32_2 : wc.cell? ⟨gb160, 2, none⟩ = some (.bool false) := (blk_cell BK160.out 2).trans rfl
                                      have hcz32_3 : wc.cell? ⟨gb160, 3, none⟩ = some (.int .i64 0) := (blk_cell BK160.out 3).trans rfl
                                      have hcz32_4 : wc.cell? ⟨gb160, 4, none⟩ = some (.bool false) := (blk_cell BK160.out 4).trans rfl
                                      have hcz32_5 : wc.cell? ⟨gb160, 5, none⟩ = some (.bool false) := (blk_cell BK160.out 5).trans rfl
                                      have hfz32_0 := blk_frozen BK160.out 0
                                      have hfz32_1 := blk_frozen BK160.out 1
                                      have hfz32_2 := blk_frozen BK160.out 2
                                      have hfz32_3 := blk_frozen BK160.out 3
                                      have hfz32_4 := blk_frozen BK160.out 4
                                      have hfz32_5 := blk_frozen BK160.out 5
                                      go_wp2
                                      refine bodyPost_ret (results_cell_row rfl _ _ gb160 80 #[.bool true, .bool false, .bool false, .int .i64 0, .bool false, .bool true] (0, 0) _ rfl (by (with_reducible repeat (first | refine blk_drewN ?_ _ | refine blk_drew ?_ | refine blk_alloc ?_ _)); refine blk_put (cs := #[.bool true, .bool false, .bool false, .int .i64 0, .bool false, .bool false]) ?_ 5 _ rfl; (with_reducible repeat (first | refine blk_drewN ?_ _ | refine blk_drew ?_ | refine blk_alloc ?_ _)); refine blk_put (cs := #[.bool true, .bool false, .bool false, .int .i64 0, .bool false, .bool false]) ?_ 4 _ rfl; (with_reducible repeat (first | refine blk_drewN ?_ _ | refine blk_drew ?_ | refine blk_alloc ?_ _)); refine blk_put (cs := #[.bool true, .bool false, .bool false, .int .i64 0, .bool false, .bool false]) ?_ 3 _ rfl; (with_reducible repeat (first | refine blk_drewN ?_ _ | refine blk_drew ?_ | refine blk_alloc ?_ _)); refine blk_put (cs := #[.bool true, .bool false, .bool false, .int .i64 0, .bool false, .bool false]) ?_ 2 _ rfl; (with_reducible repeat (first | refine blk_drewN ?_ _ | refine blk_drew ?_ | refine blk_alloc ?_ _)); refine blk_put (cs := #[.bool true, .bool false, .bool false, .int .i64 0, .bool false, .bool false]) ?_ 1 _ rfl; (with_reducible repeat (first | refine blk_drewN ?_ _ | refine blk_drew ?_ | refine blk_alloc ?_ _)); refine blk_put (cs := #[.bool false, .bool false, .bool false, .int .i64 0, .bool false, .bool false]) ?_ 0 _ rfl; (with_reducible repeat (first | refine blk_drewN ?_ _ | refine blk_drew ?_ | refine blk_alloc ?_ _)); exact BK160.out) Try.underlying80 rfl (by kernel_rfl)) rfl ?_
                                      exact ⟨by first | rfl | (simp [errW_none, errW_some] <;> rfl) | (simp [*, errW_none, errW_some] <;> rfl), by repeat (first | (with_reducible first | exact HB.out | apply below_alloc | apply pw_below_drewN | apply below_drew1 | refine below_set ?_ GE160.out) | exact HB.out)⟩
                                    · rw [if_neg c31] at H
                                      have c31b0 : (a0 == 44) = false := beq_eq_false_iff_ne.mpr c31
                                      have c31b1 : (a0 != 44) = true := bne_iff_ne.mpr c31
                                      by_cases c33 : a0 = 46
                                      · rw [if_pos c33] at H
                                        have c33b0 : (a0 == 46) = true := beq_iff_eq.mpr c33
                                        have c33b1 : (a0 != 46) = false := bne_eq_false_iff_eq.mpr c33
                                        clear c33
                                        simp only [Option.some.injEq, Prod.mk.injEq] at H
                                        obtain ⟨rfl, rfl, rfl, rfl, rfl, rfl⟩ := H
                                        have hcz34_0 : wc.cell? ⟨gb160, 0, none⟩ = some (.bool false) := (blk_cell BK160.out 0).trans rfl
                                        have hcz34_1 : wc.cell? ⟨gb160, 1, none⟩ = some (.bool false) := (blk_cell BK160.out 1).trans rfl
                                        have hcz34_2 : wc.cell? ⟨gb160, 2, none⟩ = some (.bool false) := (blk_cell BK160.out 2).trans rfl
                                        have hcz34_3 : wc.cell? ⟨gb160, 3, none⟩ = some (.int .i64 0) := (blk_cell BK160.out 3).trans rfl
                                        have hcz34_4 : wc.cell? ⟨gb160, 4, none⟩ = some (.bool false) := (blk_cell BK160.out 4).trans rfl
                                        have hcz34_5 : wc.cell? ⟨gb160, 5, none⟩ = some (.bool false) := (blk_cell BK160.out 5).trans rfl
                                        have hfz34_0 := blk_frozen BK160.out 0
                                        have hfz34_1 := blk_frozen BK160.out 1
                                        have hfz34_2 := blk_frozen BK160.out 2
                                        have hfz34_3 := blk_frozen BK160.out 3
                                        have hfz34_4 := blk_frozen BK160.out 4
                                        have hfz34_5 := blk_frozen BK160.out 5
                                        go_wp2
                                        refine bodyPost_ret (results_cell_row rfl _ _ gb160 80 #[.bool false, .bool false, .bool false, .int .i64 16, .bool false, .bool true] (0, 0) _ rfl (by (with_reducible repeat (first | refine blk_drewN ?_ _ | refine blk_drew ?_ | refine blk_alloc ?_ _)); refine blk_put (cs := #[.bool false, .bool false, .bool false, .int .i64 16, .bool false, .bool false]) ?_ 5 _ rfl; (with_reducible repeat (first | refine blk_drewN ?_ _ | refine blk_drew ?_ | refine blk_alloc ?_ _)); refine blk_put (cs := #[.bool false, .bool false, .bool false, .int .i64 16, .bool false, .bool false]) ?_ 4 _ rfl; (with_reducible repeat (first | refine blk_drewN ?_ _ | refine blk_drew ?_ | refine blk_alloc ?_ _)); refine blk_put (cs := #[.bool false, .bool false, .bool false, .int .i64 0, .bool false, .bool false]) ?_ 3 _ rfl; (with_reducible repeat (first | refine blk_drewN ?_ _ | refine blk_drew ?_ | refine blk_alloc ?_ _)); refine blk_put (cs := #[.bool false, .bool false, .bool false, .int .i64 0, .bool false, .bool false]) ?_ 2 _ rfl; (with_reducible repeat (first | refine blk_drewN ?_ _ | refine blk_drew ?_ | refine blk_alloc ?_ _)); refine blk_put (cs := #[.bool false, .bool false, .bool false, .int .i64 0, .bool false, .bool false]) ?_ 1 _ rfl; (with_reducible repeat (first | refine blk_drewN ?_ _ | refine blk_drew ?_ | refine blk_alloc ?_ _)); refine blk_put (cs := #[.bool false, .bool false, .bool false, .int .i64 0, .bool false, .bool false]) ?_ 0 _ rfl; (with_reducible repeat (first | refine blk_drewN ?_ _ | refine blk_drew ?_ | refine blk_alloc ?_ _)); exact BK160.out) Try.underlying80 rfl (by kernel_rfl)) rfl ?_
                                        exact ⟨by first | rfl | (simp [errW_none, errW_some] <;> rfl) | (simp [*, errW_none, errW_some] <;> rfl), by repeat (first | (with_reducible first | exact HB.out | apply below_alloc | apply pw_below_drewN | apply below_drew1 | refine below_set ?_ GE160.out) | exact HB.out)⟩
                                      · rw [if_neg c33] at H
                                        have c33b0 : (a0 == 46) = false := beq_eq_false_iff_ne.mpr c33
                                        have c33b1 : (a0 != 46) = true := bne_iff_ne.mpr c33
                                        simp only [Option.some.injEq, Prod.mk.injEq] at H
                                        obtain ⟨rfl, rfl, rfl, rfl, rfl, rfl⟩ := H
                                        have hcz35_0 : wc.cell? ⟨gb160, 0, none⟩ = some (.bool false) := (blk_cell BK160.out 0).trans rfl
                                        have hcz35_1 : wc.cell? ⟨gb160, 1, none⟩ = some (.bool false) := (blk_cell BK160.out 1).trans rfl
                                        have hcz35_2 : wc.cell? ⟨gb160, 2, none⟩ = some (.bool false) := (blk_cell BK160.out 2).trans rfl
                                        have hcz35_3 : wc.cell? ⟨gb160, 3, none⟩ = some (.int .i64 0) := (blk_cell BK160.out 3).trans rfl
                                        have hcz35_4 : wc.cell? ⟨gb160, 4, none⟩ = some (.bool false) := (blk_cell BK160.out 4).trans rfl
                                        have hcz35_5 : wc.cell? ⟨gb160, 5, none⟩ = some (.bool false) := (blk_cell BK160.out 5).trans rfl
                                        have hfz35_0 := blk_frozen BK160.out 0
                                        have hfz35_1 := blk_frozen BK160.out 1
                                        have hfz35_2 := blk_frozen BK160.out 2
                                        have hfz35_3 := blk_frozen BK160.out 3
                                        have hfz35_4 := blk_frozen BK160.out 4
                                        have hfz35_5 := blk_frozen BK160.out 5
                                        go_wp2
                                        refine bodyPost_ret (results_cell_row rfl _ _ gb160 80 #[.bool false, .bool false, .bool false, .int .i64 0, .bool false, .bool false] (0, 0) _ rfl (by (with_reducible repeat (first | refine blk_drewN ?_ _ | refine blk_drew ?_ | refine blk_alloc ?_ _)); refine blk_put (cs := #[.bool false, .bool false, .bool false, .int .i64 0, .bool false, .bool false]) ?_ 5 _ rfl; (with_reducible repeat (first | refine blk_drewN ?_ _ | refine blk_drew ?_ | refine blk_alloc ?_ _)); refine blk_put (cs := #[.bool false, .bool false, .bool false, .int .i64 0, .bool false, .bool false]) ?_ 4 _ rfl; (with_reducible repeat (first | refine blk_drewN ?_ _ | refine blk_drew ?_ | refine blk_alloc ?_ _)); refine blk_put (cs := #[.bool false, .bool false, .bool false, .int .i64 0, .bool false, .bool false]) ?_ 3 _ rfl; (with_reducible repeat (first | refine blk_drewN ?_ _ | refine blk_drew ?_ | refine blk_alloc ?_ _)); refine blk_put (cs := #[.bool false, .bool false, .bool false, .int .i64 0, .bool false, .bool false]) ?_ 2 _ rfl; (with_reducible repeat (first | refine blk_drewN ?_ _ | refine blk_drew ?_ | refine blk_alloc ?_ _)); refine blk_put (cs := #[.bool false, .bool false, .bool false, .int .i64 0, .bool false, .bool false]) ?_ 1 _ rfl; (with_reducible repeat (first | refine blk_drewN ?_ _ | refine blk_drew ?_ | refine blk_alloc ?_ _)); refine blk_put (cs := #[.bool false, .bool false, .bool false, .int .i64 0, .bool false, .bool false]) ?_ 0 _ rfl; (with_reducible repeat (first | refine blk_drewN ?_ _ | refine blk_drew ?_ | refine blk_alloc ?_ _)); exact BK160.out) Try.underlying80 rfl (by kernel_rfl)) rfl ?_
                                        exact ⟨by first | rfl | (simp [errW_none, errW_some] <;> rfl) | (simp [*, errW_none, errW_some] <;> rfl), by repeat (first | (with_reducible first | exact HB.out | apply below_alloc | apply pw_below_drewN | apply below_drew1 | refine below_set ?_ GE160.out) | exact HB.out)⟩
end Go.Proofs.Ytdhmnjoceeolcaa.GF
end
section
namespace Go.Proofs.Ytdhmnjoceeolcaa.FactsDec
open Go.RowKit Go.Proofs.Ytdhmnjoceeolcaa.GF Go.Proofs.YtdhmnjoceeolcaaW.PrintWords Go.Proofs.YtdhmnjoceeolcaaW.PrintLast Go.Proofs.YtdhmnjoceeolcaaW.PrintMore
set_option linter.unusedVariables false
set_option linter.unusedSimpArgs false
theorem b263_1 : Go.bits .and .i64 263 1 = 1 := by decide +kernel
theorem b263_2 : Go.bits .and .i64 263 2 = 2 := by decide +kernel
theorem b263_4 : Go.bits .and .i64 263 4 = 4 := by decide +kernel
theorem b263_8 : Go.bits .and .i64 263 8 = 0 := by decide +kernel
theorem b263_16 : Go.bits .and .i64 263 16 = 0 := by decide +kernel
theorem b263_32 : Go.bits .and .i64 263 32 = 0 := by decide +kernel
theorem b263_64 : Go.bits .and .i64 263 64 = 0 := by decide +kernel
theorem b263_80 : Go.bits .and .i64 263 80 = 0 := by decide +kernel
theorem b263_128 : Go.bits .and .i64 263 128 = 0 := by decide +kernel
theorem b263_256 : Go.bits .and .i64 263 256 = 256 := by decide +kernel
theorem b267_1 : Go.bits .and .i64 267 1 = 1 := by decide +kernel
theorem b267_2 : Go.bits .and .i64 267 2 = 2 := by decide +kernel
theorem b267_4 : Go.bits .and .i64 267 4 = 0 := by decide +kernel
theorem b267_8 : Go.bits .and .i64 267 8 = 8 := by decide +kernel
theorem b267_16 : Go.bits .and .i64 267 16 = 0 := by decide +kernel
theorem b267_32 : Go.bits .and .i64 267 32 = 0 := by decide +kernel
theorem b267_64 : Go.bits .and .i64 267 64 = 0 := by decide +kernel
theorem b267_80 : Go.bits .and .i64 267 80 = 0 := by decide +kernel
theorem b267_128 : Go.bits .and .i64 267 128 = 0 := by decide +kernel
theorem b267_256 : Go.bits .and .i64 267 256 = 256 := by decide +kernel
theorem b139_1 : Go.bits .and .i64 139 1 = 1 := by decide +kernel
theorem b139_2 : Go.bits .and .i64 139 2 = 2 := by decide +kernel
theorem b139_4 : Go.bits .and .i64 139 4 = 0 := by decide +kernel
theorem b139_8 : Go.bits .and .i64 139 8 = 8 := by decide +kernel
theorem b139_16 : Go.bits .and .i64 139 16 = 0 := by decide +kernel
theorem b139_32 : Go.bits .and .i64 139 32 = 0 := by decide +kernel
theorem b139_64 : Go.bits .and .i64 139 64 = 0 := by decide +kernel
theorem b139_80 : Go.bits .and .i64 139 80 = 0 := by decide +kernel
theorem b139_128 : Go.bits .and .i64 139 128 = 128 := by decide +kernel
theorem b139_256 : Go.bits .and .i64 139 256 = 0 := by decide +kernel
theorem b265_1 : Go.bits .and .i64 265 1 = 1 := by decide +kernel
theorem b265_2 : Go.bits .and .i64 265 2 = 0 := by decide +kernel
theorem b265_4 : Go.bits .and .i64 265 4 = 0 := by decide +kernel
theorem b265_8 : Go.bits .and .i64 265 8 = 8 := by decide +kernel
theorem b265_16 : Go.bits .and .i64 265 16 = 0 := by decide +kernel
theorem b265_32 : Go.bits .and .i64 265 32 = 0 := by decide +kernel
theorem b265_64 : Go.bits .and .i64 265 64 = 0 := by decide +kernel
theorem b265_80 : Go.bits .and .i64 265 80 = 0 := by decide +kernel
theorem b265_128 : Go.bits .and .i64 265 128 = 0 := by decide +kernel
theorem b265_256 : Go.bits .and .i64 265 256 = 256 := by decide +kernel
theorem b401_1 : Go.bits .and .i64 401 1 = 1 := by decide +kernel
theorem b401_2 : Go.bits .and .i64 401 2 = 0 := by decide +kernel
theorem b401_4 : Go.bits .and .i64 401 4 = 0 := by decide +kernel
theorem b401_8 : Go.bits .and .i64 401 8 = 0 := by decide +kernel
theorem b401_16 : Go.bits .and .i64 401 16 = 16 := by decide +kernel
theorem b401_32 : Go.bits .and .i64 401 32 = 0 := by decide +kernel
theorem b401_64 : Go.bits .and .i64 401 64 = 0 := by decide +kernel
theorem b401_80 : Go.bits .and .i64 401 80 = 16 := by decide +kernel
theorem b401_128 : Go.bits .and .i64 401 128 = 128 := by decide +kernel
theorem b401_256 : Go.bits .and .i64 401 256 = 256 := by decide +kernel
theorem b10_1 : Go.bits .and .i64 10 1 = 0 := by decide +kernel
theorem b10_2 : Go.bits .and .i64 10 2 = 2 := by decide +kernel
theorem b10_4 : Go.bits .and .i64 10 4 = 0 := by decide +kernel
theorem b10_8 : Go.bits .and .i64 10 8 = 8 := by decide +kernel
theorem b10_16 : Go.bits .and .i64 10 16 = 0 := by decide +kernel
theorem b10_32 : Go.bits .and .i64 10 32 = 0 := by decide +kernel
theorem b10_64 : Go.bits .and .i64 10 64 = 0 := by decide +kernel
theorem b10_80 : Go.bits .and .i64 10 80 = 0 := by decide +kernel
theorem b10_128 : Go.bits .and .i64 10 128 = 0 := by decide +kernel
theorem b10_256 : Go.bits .and .i64 10 256 = 0 := by decide +kernel
theorem b32_1 : Go.bits .and .i64 32 1 = 0 := by decide +kernel
theorem b32_2 : Go.bits .and .i64 32 2 = 0 := by decide +kernel
theorem b32_4 : Go.bits .and .i64 32 4 = 0 := by decide +kernel
theorem b32_8 : Go.bits .and .i64 32 8 = 0 := by decide +kernel
theorem b32_16 : Go.bits .and .i64 32 16 = 0 := by decide +kernel
theorem b32_32 : Go.bits .and .i64 32 32 = 32 := by decide +kernel
theorem b32_64 : Go.bits .and .i64 32 64 = 0 := by decide +kernel
theorem b32_80 : Go.bits .and .i64 32 80 = 0 := by decide +kernel
theorem b32_128 : Go.bits .and .i64 32 128 = 0 := by decide +kernel
theorem b32_256 : Go.bits .and .i64 32 256 = 0 := by decide +kernel
theorem b2_1 : Go.bits .and .i64 2 1 = 0 := by decide +kernel
theorem b2_2 : Go.bits .and .i64 2 2 = 2 := by decide +kernel
theorem b2_4 : Go.bits .and .i64 2 4 = 0 := by decide +kernel
theorem b2_8 : Go.bits .and .i64 2 8 = 0 := by decide +kernel
theorem b2_16 : Go.bits .and .i64 2 16 = 0 := by decide +kernel
theorem b2_32 : Go.bits .and .i64 2 32 = 0 := by decide +kernel
theorem b2_64 : Go.bits .and .i64 2 64 = 0 := by decide +kernel
theorem b2_80 : Go.bits .and .i64 2 80 = 0 := by decide +kernel
theorem b2_128 : Go.bits .and .i64 2 128 = 0 := by decide +kernel
theorem b2_256 : Go.bits .and .i64 2 256 = 0 := by decide +kernel
theorem b257_1 : Go.bits .and .i64 257 1 = 1 := by decide +kernel
theorem b257_2 : Go.bits .and .i64 257 2 = 0 := by decide +kernel
theorem b257_4 : Go.bits .and .i64 257 4 = 0 := by decide +kernel
theorem b257_8 : Go.bits .and .i64 257 8 = 0 := by decide +kernel
theorem b257_16 : Go.bits .and .i64 257 16 = 0 := by decide +kernel
theorem b257_32 : Go.bits .and .i64 257 32 = 0 := by decide +kernel
theorem b257_64 : Go.bits .and .i64 257 64 = 0 := by decide +kernel
theorem b257_80 : Go.bits .and .i64 257 80 = 0 := by decide +kernel
theorem b257_128 : Go.bits .and .i64 257 128 = 0 := by decide +kernel
theorem b257_256 : Go.bits .and .i64 257 256 = 256 := by decide +kernel
theorem b64_1 : Go.bits .and .i64 64 1 = 0 := by decide +kernel
theorem b64_2 : Go.bits .and .i64 64 2 = 0 := by decide +kernel
theorem b64_4 : Go.bits .and .i64 64 4 = 0 := by decide +kernel
theorem b64_8 : Go.bits .and .i64 64 8 = 0 := by decide +kernel
theorem b64_16 : Go.bits .and .i64 64 16 = 0 := by decide +kernel
theorem b64_32 : Go.bits .and .i64 64 32 = 0 := by decide +kernel
theorem b64_64 : Go.bits .and .i64 64 64 = 64 := by decide +kernel
theorem b64_80 : Go.bits .and .i64 64 80 = 64 := by decide +kernel
theorem b64_128 : Go.bits .and .i64 64 128 = 0 := by decide +kernel
theorem b64_256 : Go.bits .and .i64 64 256 = 0 := by decide +kernel
theorem b0_1 : Go.bits .and .i64 0 1 = 0 := by decide +kernel
theorem b0_2 : Go.bits .and .i64 0 2 = 0 := by decide +kernel
theorem b0_4 : Go.bits .and .i64 0 4 = 0 := by decide +kernel
theorem b0_8 : Go.bits .and .i64 0 8 = 0 := by decide +kernel
theorem b0_16 : Go.bits .and .i64 0 16 = 0 := by decide +kernel
theorem b0_32 : Go.bits .and .i64 0 32 = 0 := by decide +kernel
theorem b0_64 : Go.bits .and .i64 0 64 = 0 := by decide +kernel
theorem b0_80 : Go.bits .and .i64 0 80 = 0 := by decide +kernel
theorem b0_128 : Go.bits .and .i64 0 128 = 0 := by decide +kernel
theorem b0_256 : Go.bits .and .i64 0 256 = 0 := by decide +kernel
/-- May a register be? -/
def rg (r : Int) (h : Bool) : Bool := decide (0 ≤ r) && decide (r < 16) && (h || r == 0)
theorem reg1 (r : Int) (h : Bool) : isa_register.f r h = some (rg r h) := by
  unfold isa_register.f rg
  by_cases h1 : 0 ≤ r <;> by_cases h2 : r < 16 <;> cases h <;> simp [h1, h2]
/-- The kinds of operations: which parts, which registers, how many bits, with sign or without, is it one; the least and the greatest operand. -/
def Cl (op p : Int) (sd sa sb : Bool) (bits : Int) (sign is : Bool) (lo hi : Int) : Prop :=
  ((1 ≤ op ∧ op ≤ 19) ∧ p = 263 ∧ sd = true ∧ sa = true ∧ sb = true ∧ bits = 0 ∧ sign = false ∧ is = true ∧ lo = 0 ∧ hi = 0) ∨
  ((op = 32 ∨ op = 35 ∨ op = 36) ∧ p = 267 ∧ sd = true ∧ sa = true ∧ sb = false ∧ bits = 16 ∧ sign = true ∧ is = true ∧ lo = -32768 ∧ hi = 32767) ∨
  ((op = 37 ∨ op = 38) ∧ p = 139 ∧ sd = true ∧ sa = true ∧ sb = false ∧ bits = 16 ∧ sign = true ∧ is = true ∧ lo = -32768 ∧ hi = 32767) ∨
  (op = 33 ∧ p = 265 ∧ sd = true ∧ sa = false ∧ sb = false ∧ bits = 16 ∧ sign = true ∧ is = true ∧ lo = -32768 ∧ hi = 32767) ∨
  (op = 34 ∧ p = 401 ∧ sd = true ∧ sa = false ∧ sb = false ∧ bits = 16 ∧ sign = false ∧ is = true ∧ lo = 0 ∧ hi = 65535) ∨
  ((op = 39 ∨ op = 40) ∧ p = 10 ∧ sd = false ∧ sa = true ∧ sb = false ∧ bits = 16 ∧ sign = true ∧ is = true ∧ lo = -32768 ∧ hi = 32767) ∨
  ((op = 41 ∨ op = 42) ∧ p = 32 ∧ sd = false ∧ sa = false ∧ sb = false ∧ bits = 24 ∧ sign = true ∧ is = true ∧ lo = -8388608 ∧ hi = 8388607) ∨
  ((op = 43 ∨ op = 45 ∨ op = 47) ∧ p = 2 ∧ sd = false ∧ sa = true ∧ sb = false ∧ bits = 0 ∧ sign = false ∧ is = true ∧ lo = 0 ∧ hi = 0) ∨
  (op = 44 ∧ p = 257 ∧ sd = true ∧ sa = false ∧ sb = false ∧ bits = 0 ∧ sign = false ∧ is = true ∧ lo = 0 ∧ hi = 0) ∨
  (op = 46 ∧ p = 64 ∧ sd = false ∧ sa = false ∧ sb = false ∧ bits = 16 ∧ sign = false ∧ is = true ∧ lo = 1 ∧ hi = 5) ∨
  ((¬ (1 ≤ op ∧ op ≤ 19) ∧ ¬ (32 ≤ op ∧ op ≤ 47)) ∧ p = 0 ∧ sd = false ∧ sa = false ∧ sb = false ∧ bits = 0 ∧ sign = false ∧ is = false ∧ lo = 0 ∧ hi = 0)
theorem cl (op : Int) : ∃ p sd sa sb bits sign is lo hi, Cl op p sd sa sb bits sign is lo hi := by
  by_cases h1 : 1 ≤ op ∧ op ≤ 19
  · exact ⟨_, _, _, _, _, _, _, _, _, .inl ⟨h1, rfl, rfl, rfl, rfl, rfl, rfl, rfl, rfl, rfl⟩⟩
  by_cases h2 : 32 ≤ op ∧ op ≤ 47
  · have : op = 32 ∨ op = 33 ∨ op = 34 ∨ op = 35 ∨ op = 36 ∨ op = 37 ∨ op = 38 ∨ op = 39 ∨ op = 40 ∨ op = 41 ∨ op = 42 ∨ op = 43 ∨ op = 44 ∨ op = 45 ∨ op = 46 ∨ op = 47 := by omega
    rcases this with rfl | rfl | rfl | rfl | rfl | rfl | rfl | rfl | rfl | rfl | rfl | rfl | rfl | rfl | rfl | rfl
    · exact ⟨_, _, _, _, _, _, _, _, _, .inr (.inl ⟨(.inl rfl), rfl, rfl, rfl, rfl, rfl, rfl, rfl, rfl, rfl⟩)⟩
    · exact ⟨_, _, _, _, _, _, _, _, _, .inr (.inr (.inr (.inl ⟨rfl, rfl, rfl, rfl, rfl, rfl, rfl, rfl, rfl, rfl⟩)))⟩
    · exact ⟨_, _, _, _, _, _, _, _, _, .inr (.inr (.inr (.inr (.inl ⟨rfl, rfl, rfl, rfl, rfl, rfl, rfl, rfl, rfl, rfl⟩))))⟩
    · exact ⟨_, _, _, _, _, _, _, _, _, .inr (.inl ⟨(.inr (.inl rfl)), rfl, rfl, rfl, rfl, rfl, rfl, rfl, rfl, rfl⟩)⟩
    · exact ⟨_, _, _, _, _, _, _, _, _, .inr (.inl ⟨(.inr (.inr rfl)), rfl, rfl, rfl, rfl, rfl, rfl, rfl, rfl, rfl⟩)⟩
    · exact ⟨_, _, _, _, _, _, _, _, _, .inr (.inr (.inl ⟨(.inl rfl), rfl, rfl, rfl, rfl, rfl, rfl, rfl, rfl, rfl⟩))⟩
    · exact ⟨_, _, _, _, _, _, _, _, _, .inr (.inr (.inl ⟨(.inr rfl), rfl, rfl, rfl, rfl, rfl, rfl, rfl, rfl, rfl⟩))⟩
    · exact ⟨_, _, _, _, _, _, _, _, _, .inr (.inr (.inr (.inr (.inr (.inl ⟨(.inl rfl), rfl, rfl, rfl, rfl, rfl, rfl, rfl, rfl, rfl⟩)))))⟩
    · exact ⟨_, _, _, _, _, _, _, _, _, .inr (.inr (.inr (.inr (.inr (.inl ⟨(.inr rfl), rfl, rfl, rfl, rfl, rfl, rfl, rfl, rfl, rfl⟩)))))⟩
    · exact ⟨_, _, _, _, _, _, _, _, _, .inr (.inr (.inr (.inr (.inr (.inr (.inl ⟨(.inl rfl), rfl, rfl, rfl, rfl, rfl, rfl, rfl, rfl, rfl⟩))))))⟩
    · exact ⟨_, _, _, _, _, _, _, _, _, .inr (.inr (.inr (.inr (.inr (.inr (.inl ⟨(.inr rfl), rfl, rfl, rfl, rfl, rfl, rfl, rfl, rfl, rfl⟩))))))⟩
    · exact ⟨_, _, _, _, _, _, _, _, _, .inr (.inr (.inr (.inr (.inr (.inr (.inr (.inl ⟨(.inl rfl), rfl, rfl, rfl, rfl, rfl, rfl, rfl, rfl, rfl⟩)))))))⟩
    · exact ⟨_, _, _, _, _, _, _, _, _, .inr (.inr (.inr (.inr (.inr (.inr (.inr (.inr (.inl ⟨rfl, rfl, rfl, rfl, rfl, rfl, rfl, rfl, rfl, rfl⟩))))))))⟩
    · exact ⟨_, _, _, _, _, _, _, _, _, .inr (.inr (.inr (.inr (.inr (.inr (.inr (.inl ⟨(.inr (.inl rfl)), rfl, rfl, rfl, rfl, rfl, rfl, rfl, rfl, rfl⟩)))))))⟩
    · exact ⟨_, _, _, _, _, _, _, _, _, .inr (.inr (.inr (.inr (.inr (.inr (.inr (.inr (.inr (.inl ⟨rfl, rfl, rfl, rfl, rfl, rfl, rfl, rfl, rfl, rfl⟩)))))))))⟩
    · exact ⟨_, _, _, _, _, _, _, _, _, .inr (.inr (.inr (.inr (.inr (.inr (.inr (.inl ⟨(.inr (.inr rfl)), rfl, rfl, rfl, rfl, rfl, rfl, rfl, rfl, rfl⟩)))))))⟩
  · exact ⟨_, _, _, _, _, _, _, _, _, .inr (.inr (.inr (.inr (.inr (.inr (.inr (.inr (.inr (.inr ⟨⟨h1, h2⟩, rfl, rfl, rfl, rfl, rfl, rfl, rfl, rfl, rfl⟩)))))))))⟩
section
variable {op p bits lo hi : Int} {sd sa sb sign is : Bool}
theorem parts (k : Nat) (h : Cl op p sd sa sb bits sign is lo hi) : isa_parts.f (k + 7) op = some p := by
  rcases h with ⟨h, rfl, rfl, rfl, rfl, rfl, rfl, rfl, rfl, rfl⟩ | ⟨rfl | rfl | rfl, rfl, rfl, rfl, rfl, rfl, rfl, rfl, rfl, rfl⟩ | ⟨rfl | rfl, rfl, rfl, rfl, rfl, rfl, rfl, rfl, rfl, rfl⟩ | ⟨rfl, rfl, rfl, rfl, rfl, rfl, rfl, rfl, rfl, rfl⟩ | ⟨rfl, rfl, rfl, rfl, rfl, rfl, rfl, rfl, rfl, rfl⟩ | ⟨rfl | rfl, rfl, rfl, rfl, rfl, rfl, rfl, rfl, rfl, rfl⟩ | ⟨rfl | rfl, rfl, rfl, rfl, rfl, rfl, rfl, rfl, rfl, rfl⟩ | ⟨rfl | rfl | rfl, rfl, rfl, rfl, rfl, rfl, rfl, rfl, rfl, rfl⟩ | ⟨rfl, rfl, rfl, rfl, rfl, rfl, rfl, rfl, rfl, rfl⟩ | ⟨rfl, rfl, rfl, rfl, rfl, rfl, rfl, rfl, rfl, rfl⟩ | ⟨⟨h1, h2⟩, rfl, rfl, rfl, rfl, rfl, rfl, rfl, rfl, rfl⟩
  · simp [isa_parts.f, isa_parts.j0, h.1, h.2]
  all_goals first | (simp [isa_parts.f, isa_parts.j0, isa_parts.j1, isa_parts.j2, isa_parts.j3, isa_parts.j4, isa_parts.j5]; done) | skip
  · have n32 : op ≠ 32 := by omega
    have n33 : op ≠ 33 := by omega
    have n34 : op ≠ 34 := by omega
    have n35 : op ≠ 35 := by omega
    have n36 : op ≠ 36 := by omega
    have n37 : op ≠ 37 := by omega
    have n38 : op ≠ 38 := by omega
    have n39 : op ≠ 39 := by omega
    have n40 : op ≠ 40 := by omega
    have n41 : op ≠ 41 := by omega
    have n42 : op ≠ 42 := by omega
    have n43 : op ≠ 43 := by omega
    have n44 : op ≠ 44 := by omega
    have n45 : op ≠ 45 := by omega
    have n46 : op ≠ 46 := by omega
    have n47 : op ≠ 47 := by omega
    by_cases e : 1 ≤ op
    · have e2 : ¬ op ≤ 19 := fun x => h1 ⟨e, x⟩
      simp [isa_parts.f, isa_parts.j0, isa_parts.j1, isa_parts.j2, isa_parts.j3, isa_parts.j4, isa_parts.j5, e, e2, n32, n33, n34, n35, n36, n37, n38, n39, n40, n41, n42, n43, n44, n45, n46, n47]
    · simp [isa_parts.f, isa_parts.j0, isa_parts.j1, isa_parts.j2, isa_parts.j3, isa_parts.j4, isa_parts.j5, e, n32, n33, n34, n35, n36, n37, n38, n39, n40, n41, n42, n43, n44, n45, n46, n47]
theorem shaped (k : Nat) (h : Cl op p sd sa sb bits sign is lo hi) : crucibleref02_shaped.f (k + 7) op = some (sd, sa, sb, bits, sign, is) := by
  rcases h with ⟨h, rfl, rfl, rfl, rfl, rfl, rfl, rfl, rfl, rfl⟩ | ⟨rfl | rfl | rfl, rfl, rfl, rfl, rfl, rfl, rfl, rfl, rfl, rfl⟩ | ⟨rfl | rfl, rfl, rfl, rfl, rfl, rfl, rfl, rfl, rfl, rfl⟩ | ⟨rfl, rfl, rfl, rfl, rfl, rfl, rfl, rfl, rfl, rfl⟩ | ⟨rfl, rfl, rfl, rfl, rfl, rfl, rfl, rfl, rfl, rfl⟩ | ⟨rfl | rfl, rfl, rfl, rfl, rfl, rfl, rfl, rfl, rfl, rfl⟩ | ⟨rfl | rfl, rfl, rfl, rfl, rfl, rfl, rfl, rfl, rfl, rfl⟩ | ⟨rfl | rfl | rfl, rfl, rfl, rfl, rfl, rfl, rfl, rfl, rfl, rfl⟩ | ⟨rfl, rfl, rfl, rfl, rfl, rfl, rfl, rfl, rfl, rfl⟩ | ⟨rfl, rfl, rfl, rfl, rfl, rfl, rfl, rfl, rfl, rfl⟩ | ⟨⟨h1, h2⟩, rfl, rfl, rfl, rfl, rfl, rfl, rfl, rfl, rfl⟩
  · simp [crucibleref02_shaped.f, crucibleref02_shaped.j0, h.1, h.2]
  all_goals first | (simp [crucibleref02_shaped.f, crucibleref02_shaped.j0, crucibleref02_shaped.j1, crucibleref02_shaped.j2, crucibleref02_shaped.j3, crucibleref02_shaped.j4]; done) | skip
  · have n32 : op ≠ 32 := by omega
    have n33 : op ≠ 33 := by omega
    have n34 : op ≠ 34 := by omega
    have n35 : op ≠ 35 := by omega
    have n36 : op ≠ 36 := by omega
    have n37 : op ≠ 37 := by omega
    have n38 : op ≠ 38 := by omega
    have n39 : op ≠ 39 := by omega
    have n40 : op ≠ 40 := by omega
    have n41 : op ≠ 41 := by omega
    have n42 : op ≠ 42 := by omega
    have n43 : op ≠ 43 := by omega
    have n44 : op ≠ 44 := by omega
    have n45 : op ≠ 45 := by omega
    have n46 : op ≠ 46 := by omega
    have n47 : op ≠ 47 := by omega
    by_cases e : 1 ≤ op
    · have e2 : ¬ op ≤ 19 := fun x => h1 ⟨e, x⟩
      simp [crucibleref02_shaped.f, crucibleref02_shaped.j0, crucibleref02_shaped.j1, crucibleref02_shaped.j2, crucibleref02_shaped.j3, crucibleref02_shaped.j4, e, e2, n32, n33, n34, n35, n36, n37, n38, n39, n40, n41, n42, n43, n44, n45, n46, n47]
    · simp [crucibleref02_shaped.f, crucibleref02_shaped.j0, crucibleref02_shaped.j1, crucibleref02_shaped.j2, crucibleref02_shaped.j3, crucibleref02_shaped.j4, e, n32, n33, n34, n35, n36, n37, n38, n39, n40, n41, n42, n43, n44, n45, n46, n47]
/-- May an instruction be? -/
def ok (d a b i : Int) (sd sa sb is : Bool) (lo hi : Int) : Bool := is && (rg d sd && (rg a sa && (rg b sb && (decide (lo ≤ i) && decide (i ≤ hi)))))
theorem check (k : Nat) (d a b i : Int) (h : Cl op p sd sa sb bits sign is lo hi) : isa_Check.f (k + 7) op d a b i = some (if ok d a b i sd sa sb is lo hi = true then 0 else 1) := by
  have hp := parts k h
  unfold isa_Check.f ok
  rw [hp]
  simp only [Option.bind_some, reg1]
  rcases h with ⟨h, rfl, rfl, rfl, rfl, rfl, rfl, rfl, rfl, rfl⟩ | ⟨rfl | rfl | rfl, rfl, rfl, rfl, rfl, rfl, rfl, rfl, rfl, rfl⟩ | ⟨rfl | rfl, rfl, rfl, rfl, rfl, rfl, rfl, rfl, rfl, rfl⟩ | ⟨rfl, rfl, rfl, rfl, rfl, rfl, rfl, rfl, rfl, rfl⟩ | ⟨rfl, rfl, rfl, rfl, rfl, rfl, rfl, rfl, rfl, rfl⟩ | ⟨rfl | rfl, rfl, rfl, rfl, rfl, rfl, rfl, rfl, rfl, rfl⟩ | ⟨rfl | rfl, rfl, rfl, rfl, rfl, rfl, rfl, rfl, rfl, rfl⟩ | ⟨rfl | rfl | rfl, rfl, rfl, rfl, rfl, rfl, rfl, rfl, rfl, rfl⟩ | ⟨rfl, rfl, rfl, rfl, rfl, rfl, rfl, rfl, rfl, rfl⟩ | ⟨rfl, rfl, rfl, rfl, rfl, rfl, rfl, rfl, rfl, rfl⟩ | ⟨⟨h1, h2⟩, rfl, rfl, rfl, rfl, rfl, rfl, rfl, rfl, rfl⟩
  all_goals simp only [isa_within.f, b263_1, b263_2, b263_4, b263_8, b263_16, b263_32, b263_64, b263_80, b263_128, b263_256, b267_1, b267_2, b267_4, b267_8, b267_16, b267_32, b267_64, b267_80, b267_128, b267_256, b139_1, b139_2, b139_4, b139_8, b139_16, b139_32, b139_64, b139_80, b139_128, b139_256, b265_1, b265_2, b265_4, b265_8, b265_16, b265_32, b265_64, b265_80, b265_128, b265_256, b401_1, b401_2, b401_4, b401_8, b401_16, b401_32, b401_64, b401_80, b401_128, b401_256, b10_1, b10_2, b10_4, b10_8, b10_16, b10_32, b10_64, b10_80, b10_128, b10_256, b32_1, b32_2, b32_4, b32_8, b32_16, b32_32, b32_64, b32_80, b32_128, b32_256, b2_1, b2_2, b2_4, b2_8, b2_16, b2_32, b2_64, b2_80, b2_128, b2_256, b257_1, b257_2, b257_4, b257_8, b257_16, b257_32, b257_64, b257_80, b257_128, b257_256, b64_1, b64_2, b64_4, b64_8, b64_16, b64_32, b64_64, b64_80, b64_128, b64_256, b0_1, b0_2, b0_4, b0_8, b0_16, b0_32, b0_64, b0_80, b0_128, b0_256]
  all_goals simp
  all_goals (try (generalize rg d _ = r1; generalize rg a _ = r2; generalize rg b _ = r3; cases r1 <;> cases r2 <;> cases r3 <;> simp))
  all_goals (repeat' split) <;> simp_all <;> omega
/-- An instruction's word. -/
def E (op d a b i bits : Int) : Int := op * 16777216 + d * 1048576 + a * 65536 + b * 4096 + i % (if bits = 24 then 16777216 else 65536)
end
theorem or_add (x y : Int) (m : Int) (n : Nat) (hmn : m = ((2 ^ n : Nat) : Int)) (hm : m ≤ 4294967296) (hx0 : 0 ≤ x) (hx : x < 4294967296) (hy0 : 0 ≤ y) (hy : y < m) (hz : x % m = 0) : Go.bits .or .u32 x y = x + y := by
  rw [u32_or x y hx0 hx hy0 (by omega)]
  have h1 : x.toNat % 2 ^ n = 0 := by
    have : ((x.toNat % 2 ^ n : Nat) : Int) = 0 := by rw [Int.natCast_emod, Int.toNat_of_nonneg hx0, ← hmn]; exact hz
    omega
  have h2 : y.toNat < 2 ^ n := by omega
  rw [nat_join n _ _ h1 h2]
  omega
theorem and_low (x : Int) (hx0 : 0 ≤ x) (hx : x < 4294967296) : Go.bits .and .u32 x 65535 = x % 65536 := by
  rw [u32_and x 65535 hx0 hx (by omega) (by omega)]
  have : (x.toNat &&& (65535 : Int).toNat : Nat) = x.toNat % 65536 := nat_mask16 x.toNat
  rw [this]; omega
theorem and_far (x : Int) (hx0 : 0 ≤ x) (hx : x < 4294967296) : Go.bits .and .u32 x 16777215 = x % 16777216 := by
  rw [u32_and x 16777215 hx0 hx (by omega) (by omega)]
  have : (x.toNat &&& (16777215 : Int).toNat : Nat) = x.toNat % 16777216 := nat_mask24 x.toNat
  rw [this]; omega
theorem z0 : ((0 : Int) = 0) = True := by simp
theorem z1 : ((24 : Int) = 24) = True := by simp
theorem z2 : ((16 : Int) = 24) = False := by simp
theorem z3 : ((24 : Int) = 0) = False := by simp
theorem or4 (op d a b : Int) (h1 : 0 ≤ op) (h2 : op < 256) (d1 : 0 ≤ d) (d2 : d < 16) (a1 : 0 ≤ a) (a2 : a < 16) (b1 : 0 ≤ b) (b2 : b < 16) :
    Go.bits .or .u32 (Go.bits .or .u32 (Go.bits .or .u32 (((op % 4294967296) * 16777216) % 4294967296) (((d % 4294967296) * 1048576) % 4294967296)) (((a % 4294967296) * 65536) % 4294967296)) (((b % 4294967296) * 4096) % 4294967296) = op * 16777216 + d * 1048576 + a * 65536 + b * 4096 := by
  rw [show ((op % 4294967296) * 16777216) % 4294967296 = op * 16777216 by omega, show ((d % 4294967296) * 1048576) % 4294967296 = d * 1048576 by omega, show ((a % 4294967296) * 65536) % 4294967296 = a * 65536 by omega, show ((b % 4294967296) * 4096) % 4294967296 = b * 4096 by omega]
  rw [or_add (op * 16777216) (d * 1048576) 16777216 24 (by decide) (by omega) (by omega) (by omega) (by omega) (by omega) (by omega)]
  rw [or_add (op * 16777216 + d * 1048576) (a * 65536) 1048576 20 (by decide) (by omega) (by omega) (by omega) (by omega) (by omega) (by omega)]
  rw [or_add (op * 16777216 + d * 1048576 + a * 65536) (b * 4096) 65536 16 (by decide) (by omega) (by omega) (by omega) (by omega) (by omega) (by omega)]
/-- What an instruction that may be has, in numbers. -/
theorem ok_out {d a b i lo hi : Int} {sd sa sb is : Bool} (h : ok d a b i sd sa sb is lo hi = true) : is = true ∧ (0 ≤ d ∧ d < 16 ∧ (sd = false → d = 0)) ∧ (0 ≤ a ∧ a < 16 ∧ (sa = false → a = 0)) ∧ (0 ≤ b ∧ b < 16 ∧ (sb = false → b = 0)) ∧ lo ≤ i ∧ i ≤ hi := by
  unfold ok rg at h
  simp only [Bool.and_eq_true, decide_eq_true_eq, Bool.or_eq_true, beq_iff_eq] at h
  obtain ⟨h1, ⟨⟨h2, h3⟩, h4⟩, ⟨⟨h5, h6⟩, h7⟩, ⟨⟨h8, h9⟩, h10⟩, h11, h12⟩ := h
  refine ⟨h1, ⟨h2, h3, fun e => ?_⟩, ⟨h5, h6, fun e => ?_⟩, ⟨h8, h9, fun e => ?_⟩, h11, h12⟩
  · rcases h4 with h4 | h4
    · rw [e] at h4; cases h4
    · exact h4
  · rcases h7 with h7 | h7
    · rw [e] at h7; cases h7
    · exact h7
  · rcases h10 with h10 | h10
    · rw [e] at h10; cases h10
    · exact h10
section
variable {op p bits lo hi : Int} {sd sa sb sign is : Bool}
theorem isaEnc (k : Nat) (d a b i : Int) (h : Cl op p sd sa sb bits sign is lo hi) (hok : ok d a b i sd sa sb is lo hi = true) : isa_Encode.f (k + 7) op d a b i = some (E op d a b i bits, 0) := by
  have hp := parts k h
  have hc := check k d a b i h
  rw [if_pos hok] at hc
  obtain ⟨_, ⟨d1, d2, d3⟩, ⟨a1, a2, a3⟩, ⟨b1, b2, b3⟩, i1, i2⟩ := ok_out hok
  unfold isa_Encode.f E
  rw [hc, hp]
  simp only [Option.bind_some, if_true]
  clear hp hc hok
  rcases h with ⟨h, rfl, rfl, rfl, rfl, rfl, rfl, rfl, rfl, rfl⟩ | ⟨rfl | rfl | rfl, rfl, rfl, rfl, rfl, rfl, rfl, rfl, rfl, rfl⟩ | ⟨rfl | rfl, rfl, rfl, rfl, rfl, rfl, rfl, rfl, rfl, rfl⟩ | ⟨rfl, rfl, rfl, rfl, rfl, rfl, rfl, rfl, rfl, rfl⟩ | ⟨rfl, rfl, rfl, rfl, rfl, rfl, rfl, rfl, rfl, rfl⟩ | ⟨rfl | rfl, rfl, rfl, rfl, rfl, rfl, rfl, rfl, rfl, rfl⟩ | ⟨rfl | rfl, rfl, rfl, rfl, rfl, rfl, rfl, rfl, rfl, rfl⟩ | ⟨rfl | rfl | rfl, rfl, rfl, rfl, rfl, rfl, rfl, rfl, rfl, rfl⟩ | ⟨rfl, rfl, rfl, rfl, rfl, rfl, rfl, rfl, rfl, rfl⟩ | ⟨rfl, rfl, rfl, rfl, rfl, rfl, rfl, rfl, rfl, rfl⟩ | ⟨⟨h1, h2⟩, rfl, rfl, rfl, rfl, rfl, rfl, rfl, rfl, rfl⟩
  all_goals simp only [b263_1, b263_2, b263_4, b263_8, b263_16, b263_32, b263_64, b263_80, b263_128, b263_256, b267_1, b267_2, b267_4, b267_8, b267_16, b267_32, b267_64, b267_80, b267_128, b267_256, b139_1, b139_2, b139_4, b139_8, b139_16, b139_32, b139_64, b139_80, b139_128, b139_256, b265_1, b265_2, b265_4, b265_8, b265_16, b265_32, b265_64, b265_80, b265_128, b265_256, b401_1, b401_2, b401_4, b401_8, b401_16, b401_32, b401_64, b401_80, b401_128, b401_256, b10_1, b10_2, b10_4, b10_8, b10_16, b10_32, b10_64, b10_80, b10_128, b10_256, b32_1, b32_2, b32_4, b32_8, b32_16, b32_32, b32_64, b32_80, b32_128, b32_256, b2_1, b2_2, b2_4, b2_8, b2_16, b2_32, b2_64, b2_80, b2_128, b2_256, b257_1, b257_2, b257_4, b257_8, b257_16, b257_32, b257_64, b257_80, b257_128, b257_256, b64_1, b64_2, b64_4, b64_8, b64_16, b64_32, b64_64, b64_80, b64_128, b64_256, b0_1, b0_2, b0_4, b0_8, b0_16, b0_32, b0_64, b0_80, b0_128, b0_256]
  all_goals first | (exact absurd (show (false : Bool) = true by assumption) (by decide)) | skip
  all_goals rw [or4 _ d a b (by omega) (by omega) d1 d2 a1 a2 b1 b2]
  all_goals simp only [if_true, show ¬ (32 : Int) = 0 by omega, show ¬ (16 : Int) = 24 by omega, show ¬ (0 : Int) = 24 by omega, if_false]
  all_goals first | rw [and_low _ (by omega) (by omega)] | rw [and_far _ (by omega) (by omega)]
  all_goals first | rw [or_add _ _ 4096 12 (by decide) (by omega) (by omega) (by omega) (by omega) (by omega) (by omega)] | (have hb0 := b3 rfl; rw [or_add _ _ 65536 16 (by decide) (by omega) (by omega) (by omega) (by omega) (by omega) (by omega)]) | (have hb0 := b3 rfl; have ha0 := a3 rfl; have hd0 := d3 rfl; rw [or_add _ _ 16777216 24 (by decide) (by omega) (by omega) (by omega) (by omega) (by omega) (by omega)])
  all_goals (congr 2; omega)
theorem isaEncNo (k : Nat) (d a b i : Int) (h : Cl op p sd sa sb bits sign is lo hi) (hok : ¬ ok d a b i sd sa sb is lo hi = true) : isa_Encode.f (k + 7) op d a b i = some (0, 1) := by
  have hc := check k d a b i h
  rw [if_neg hok] at hc
  unfold isa_Encode.f
  rw [hc]
  rfl
end
end Go.Proofs.Ytdhmnjoceeolcaa.FactsDec
end
section
namespace Go.Proofs.Ytdhmnjoceeolcaa.Asm
open Go.RowKit Go.Proofs.YtdhmnjoceeolcaaW.PrintWords Go.Proofs.YtdhmnjoceeolcaaW.PrintLast Go.Proofs.YtdhmnjoceeolcaaW.PrintMore Go.Proofs.Ytdhmnjoceeolcaa.GF
set_option linter.unusedVariables false
set_option linter.unusedSimpArgs false
/-- Whether a line may be. -/
def mayV (x : S37) : Bool := (asm_may.f 7 x.f0 x.f1.f0 x.f1.f1 x.f1.f2 x.f1.f3 x.f1.f4 x.f2).getD false
theorem check_some (op d a b i : Int) : ∃ r, isa_Check.f 7 op d a b i = some r := by
  obtain ⟨p, sd, sa, sb, bits, sign, is, lo, hi, h⟩ := FactsDec.cl op
  exact ⟨_, FactsDec.check 0 d a b i h⟩
theorem may_some (x : S37) : asm_may.f 7 x.f0 x.f1.f0 x.f1.f1 x.f1.f2 x.f1.f3 x.f1.f4 x.f2 = some (mayV x) := by
  have : ∃ r, asm_may.f 7 x.f0 x.f1.f0 x.f1.f1 x.f1.f2 x.f1.f3 x.f1.f4 x.f2 = some r := by
    obtain ⟨r, hr⟩ := check_some x.f1.f0 x.f1.f1 x.f1.f2 x.f1.f3 x.f1.f4
    unfold asm_may.f asm_branches.f
    rw [hr]
    simp only [Option.bind_some]
    repeat' split
    all_goals first | exact ⟨_, rfl⟩ | (simp only [Option.bind_some]; split <;> exact ⟨_, rfl⟩)
  obtain ⟨r, hr⟩ := this
  unfold mayV
  rw [hr]; rfl
/-- How many lines have a label. -/
def cnt (l : List S37) (k : Int) : Nat := l.countP fun x => x.f0 == k
def stands : List S37 → Mm → Mm
  | [], es => es
  | x :: l, es => stands l (up es x.f0 ((get es x.f0).getD 0 + 1))
def stN (l : List S37) (i : Nat) : Mm := stands (l.take i) []
theorem stands_snoc (x : S37) : ∀ (l : List S37) (es : Mm), stands (l ++ [x]) es = up (stands l es) x.f0 ((get (stands l es) x.f0).getD 0 + 1)
  | [], es => rfl
  | y :: l, es => by rw [List.cons_append, stands, stands_snoc x l, stands]
theorem take_snoc {α : Type} (l : List α) (i : Nat) (d : α) (h : i < l.length) : l.take (i + 1) = l.take i ++ [l.getD i d] := by
  rw [List.take_succ_eq_append_getElem h, List.getD_eq_getElem?_getD, List.getElem?_eq_getElem h]; rfl
theorem stN_step (l : List S37) (i : Nat) (h : i < l.length) : stN l (i + 1) = up (stN l i) (l.getD i z37).f0 ((get (stN l i) (l.getD i z37).f0).getD 0 + 1) := by
  unfold stN
  rw [take_snoc l i z37 h, stands_snoc]
theorem stN_get (l : List S37) (k : Int) : ∀ i, i ≤ l.length → (get (stN l i) k).getD 0 = (cnt (l.take i) k : Int)
  | 0, _ => rfl
  | i + 1, h => by
    rw [stN_step l i (by omega), get_up, take_snoc l i z37 (by omega), cnt, List.countP_append, ← cnt]
    have hi := stN_get l k i (by omega)
    by_cases e : k = (l.getD i z37).f0
    · subst e
      rw [if_pos rfl, stN_get l _ i (by omega)]
      simp [List.countP_cons]
    · rw [if_neg e, hi]
      have : ((l.getD i z37).f0 == k) = false := beq_eq_false_iff_ne.2 fun h => e h.symm
      generalize l.getD i z37 = y at *
      simp [List.countP_cons, this]
/-- Whether a line's label is there twice, or where it goes is not there. -/
def badV (l : List S37) (x : S37) : Bool := (decide (0 < x.f0) && decide (1 < (cnt l x.f0 : Int))) || (decide (0 < x.f2) && decide ((cnt l x.f2 : Int) = 0))
def checkV (l : List S37) : Int := if 262144 < l.length then 3 else if l.all mayV = true then (if l.any (badV l) = true then 60 else 0) else 1
theorem cnt_le (l : List S37) (k : Int) : cnt l k ≤ l.length := List.countP_le_length
theorem all_take {α : Type} (l : List α) (p : α → Bool) (d : α) (i : Nat) (h : i < l.length) (h1 : (l.take i).all p = true) (h2 : p (l.getD i d) = true) : (l.take (i + 1)).all p = true := by
  rw [take_snoc l i d h, List.all_append, h1]; generalize l.getD i d = y at *; simp [h2]
theorem any_take {α : Type} (l : List α) (p : α → Bool) (d : α) (i : Nat) (h : i < l.length) (h1 : (l.take i).any p = false) (h2 : p (l.getD i d) = false) : (l.take (i + 1)).any p = false := by
  rw [take_snoc l i d h, List.any_append, h1]; generalize l.getD i d = y at *; simp [h2]
theorem getD_mem {α : Type} (l : List α) (d : α) (i : Nat) (h : i < l.length) : l.getD i d ∈ l := by
  rw [List.getD_eq_getElem?_getD, List.getElem?_eq_getElem h]; exact List.getElem_mem h
theorem all_no {α : Type} (l : List α) (p : α → Bool) (d : α) (i : Nat) (h : i < l.length) (h2 : p (l.getD i d) = false) : ¬ l.all p = true := fun e => by
  rw [List.all_eq_true] at e
  rw [e _ (getD_mem l d i h)] at h2; cases h2
theorem any_yes {α : Type} (l : List α) (p : α → Bool) (d : α) (i : Nat) (h : i < l.length) (h2 : p (l.getD i d) = true) : l.any p = true := List.any_eq_true.2 ⟨_, getD_mem l d i h, h2⟩
abbrev lb (x : S37) : Obj := .cells #[.int .i64 x.f0, .int .i64 x.f1.f0, .int .i64 x.f1.f1, .int .i64 x.f1.f2, .int .i64 x.f1.f3, .int .i32 x.f1.f4, .int .i64 x.f2] 37 (0, 0)
theorem rd_L (l : List S37) (i : Nat) : rd_T37 l (i : Int) = l.getD i z37 := by unfold rd_T37; rw [Int.toNat_natCast]
theorem ret_i {a b : Int} (h : a = b) : Ending.returned (.int .i64 a) = .returned (.int .i64 b) := by rw [h]
set_option maxHeartbeats 16000000 in
set_option maxRecDepth 100000 in
theorem check_calls {w : World} {A : Option Addr} {l : List S37} {c : Nat} (hL : Aside0 (Kd.C k37 w A l.length l)) :
    Calls Try.prog 11 #[.slice A l.length c] w fun e w' => e = .returned (.int .i64 (checkV l)) ∧ Below w.heap.size w w' := by
  have hmx := Kd.C_max hL.out
  have hmm := @run_makeMap Try.prog
  by_cases hlen : 262144 < l.length
  · have hv : Aside0 (checkV l = 3) := ⟨by unfold checkV; rw [if_pos hlen]⟩
    go_enter Try.func11, Try.ntmps11
    go_wp2_with fail
    go_ret
    exact ⟨ret_i hv.out.symm, Below.refl _ _⟩
  have hle : l.length ≤ 262144 := by omega
  have hno : ∀ i, i < l.length → mayV (l.getD i z37) = false → Aside0 (checkV l = 1) := fun i h h2 => ⟨by unfold checkV; rw [if_neg hlen, if_neg (all_no l mayV z37 i h h2)]⟩
  have hb0 : Aside0 (Below w.heap.size w (w.alloc (.map #[] 0))) := ⟨below_alloc (Below.refl _ _) _⟩
  have hM0 : Aside0 (Mp (w.alloc (.map #[] 0)) w.heap.size (stN l 0)) := ⟨Mp.new w⟩
  go_enter Try.func11, Try.ntmps11
  go_upto_region 4 with (fail)
  generalize w.alloc (.map #[] 0) = W0 at *
  go_wp2_with fail
  go_loopw [14] (fun u14 wr => ∃ i : Nat, i ≤ l.length ∧ u14 = .int .i64 i ∧ Aside0 (Below w.heap.size w wr) ∧ Aside0 (Mp wr w.heap.size (stN l i)) ∧ Aside0 ((l.take i).all mayV = true)) (fun u _ => l.length - (intOf u).toNat)
  case atStart => exact ⟨0, Nat.zero_le _, rfl, hb0, hM0, ⟨rfl⟩⟩
  case round =>
    clear hb0 hM0
    obtain ⟨i, hi, rfl, hb, hM, hall⟩ := hrel
    by_cases hlt : i < l.length
    · obtain ⟨ad, ea, a0, a1, a2, a3, a4, a5, a6⟩ := at_T37 (Kd.C_below hL.out hb.out) (i : Int) (by omega) (by omega)
      subst ea
      simp only [Int.toNat_natCast, rd_L] at a0 a1 a2 a3 a4 a5 a6
      have hX := Aside0.mk (blk_new wr (lb (l.getD i z37)))
      have hB := Aside0.mk (below_step hb.out (below_alloc (Below.refl wr.heap.size wr) (lb (l.getD i z37))))
      replace hM := Aside0.mk (hM.out.below (below_alloc (Below.refl wr.heap.size wr) (lb (l.getD i z37))))
      have q0 : (0 : Int) ≤ (i : Int) := by omega
      have q1 : (i : Int) < (l.length : Int) := by omega
      have hms := Aside0.mk (may_some (l.getD i z37))
      have hst := Aside0.mk (stN_step l i hlt)
      have hcn := Aside0.mk (stN_get l (l.getD i z37).f0 i hi)
      have hcb : Aside0 (cnt (l.take i) (l.getD i z37).f0 ≤ 262144) := ⟨by have := cnt_le (l.take i) (l.getD i z37).f0; rw [List.length_take] at this; omega⟩
      have hno2 := hno i hlt
      have hal2 := fun h => Aside0.mk (all_take l mayV z37 i hlt hall.out h)
      clear hno hall
      generalize l.getD i z37 = x at *
      go_upto_region 7 with (fail)
      generalize wr.alloc (lb x) = W at *
      have p0 := (blk_cell hX.out 0).trans (show _ = some (.int .i64 x.f0) from rfl)
      have p1 := (blk_cell hX.out 1).trans (show _ = some (.int .i64 x.f1.f0) from rfl)
      have p2 := (blk_cell hX.out 2).trans (show _ = some (.int .i64 x.f1.f1) from rfl)
      have p3 := (blk_cell hX.out 3).trans (show _ = some (.int .i64 x.f1.f2) from rfl)
      have p4 := (blk_cell hX.out 4).trans (show _ = some (.int .i64 x.f1.f3) from rfl)
      have p5 := (blk_cell hX.out 5).trans (show _ = some (.int .i32 x.f1.f4) from rfl)
      have p6 := (blk_cell hX.out 6).trans (show _ = some (.int .i64 x.f2) from rfl)
      cases hmv : mayV x
      · have hq := hno2 hmv
        rw [hmv] at hms
        clear hno2 hal2
        replace hmv := Aside0.mk hmv
        go_wp2_with (go_at_call 23; (with_reducible refine (asm_may.calls 7 _ _ _ _ _ _ _ false _ hms.out).mono ?_); rintro e w1 ⟨rfl, hb1⟩; replace hb1 := Aside0.mk hb1)
        go_ret
        exact ⟨ret_i hq.out.symm, below_step hB.out hb1.out⟩
      · have hq := hal2 hmv
        rw [hmv] at hms
        clear hno2 hal2
        replace hmv := Aside0.mk hmv
        go_upto_region 9 with (go_at_call 23; (with_reducible refine (asm_may.calls 7 _ _ _ _ _ _ _ true _ hms.out).mono ?_); rintro e w1 ⟨rfl, hb1⟩; replace hb1 := Aside0.mk hb1)
        clear p0 p1 p2 p3 p4 p5 p6
        have hB2 := Aside0.mk (below_step hB.out hb1.out)
        replace hM := Aside0.mk (hM.out.below hb1.out)
        have p0 := (blk_cell (blk_below hX.out hb1.out) 0).trans (show _ = some (.int .i64 x.f0) from rfl)
        have hlk := look hM.out x.f0
        have hpt := put hM.out x.f0 ((get (stN l i) x.f0).getD 0 + 1)
        rw [hcn.out] at hlk hpt
        have hB3 := Aside0.mk (put_below hB2.out hM.out (Nat.le_refl _) x.f0 ((cnt (l.take i) x.f0 : Int) + 1))
        have hM3 := Aside0.mk (put_mp hM.out x.f0 ((get (stN l i) x.f0).getD 0 + 1))
        rw [← hst.out, hcn.out] at hM3
        have hwr : IntKind.i64.wrap ((cnt (l.take i) x.f0 : Int) + 1) = (cnt (l.take i) x.f0 : Int) + 1 := IntWalk.i64_in _ (by have := hcb.out; omega)
        clear hM hst hcn
        go_wp2_with fail
        go_roundw
        case rel => exact ⟨i + 1, by omega, by go_num, hB3, hM3, hq⟩
        case measure => simp [intOf]; omega
    · obtain rfl : i = l.length := by omega
      rw [List.take_length] at hall
      have hok : Aside0 (∀ b, l.any (badV l) = b → checkV l = if b = true then 60 else 0) := ⟨fun b hb => by unfold checkV; rw [if_neg hlen, if_pos hall.out, hb]⟩
      have hget := Aside0.mk (fun k => by have := stN_get l k l.length (Nat.le_refl _); rwa [List.take_length] at this : ∀ k, (get (stN l l.length) k).getD 0 = (cnt l k : Int))
      clear hno hall
      go_wp2_with fail
      go_loopw [29] (fun u29 wr => ∃ i : Nat, i ≤ l.length ∧ u29 = .int .i64 i ∧ Aside0 (Below w.heap.size w wr) ∧ Aside0 (Mp wr w.heap.size (stN l l.length)) ∧ Aside0 ((l.take i).any (badV l) = false)) (fun u _ => l.length - (intOf u).toNat)
      case atStart => exact ⟨0, Nat.zero_le _, rfl, hb, hM, ⟨rfl⟩⟩
      case round =>
        clear hb hM
        obtain ⟨i, hi, rfl, hb, hM, hall⟩ := hrel
        by_cases hlt : i < l.length
        · obtain ⟨ad, ea, a0, a1, a2, a3, a4, a5, a6⟩ := at_T37 (Kd.C_below hL.out hb.out) (i : Int) (by omega) (by omega)
          subst ea
          simp only [Int.toNat_natCast, rd_L] at a0 a1 a2 a3 a4 a5 a6
          have hX := Aside0.mk (blk_new wr (lb (l.getD i z37)))
          have hB := Aside0.mk (below_step hb.out (below_alloc (Below.refl wr.heap.size wr) (lb (l.getD i z37))))
          replace hM := Aside0.mk (hM.out.below (below_alloc (Below.refl wr.heap.size wr) (lb (l.getD i z37))))
          have q0 : (0 : Int) ≤ (i : Int) := by omega
          have q1 : (i : Int) < (l.length : Int) := by omega
          have hany := fun h => Aside0.mk (any_take l (badV l) z37 i hlt hall.out h)
          have hyes := fun h => Aside0.mk (hok.out true (any_yes l (badV l) z37 i hlt h))
          have hl1 := look hM.out (l.getD i z37).f0
          have hl2 := look hM.out (l.getD i z37).f2
          rw [hget.out] at hl1 hl2
          clear hall
          generalize l.getD i z37 = x at *
          go_upto_region 14 with (fail)
          generalize wr.alloc (lb x) = W at *
          have hB2 := hB
          have p0 := (blk_cell hX.out 0).trans (show _ = some (.int .i64 x.f0) from rfl)
          have p6 := (blk_cell hX.out 6).trans (show _ = some (.int .i64 x.f2) from rfl)
          by_cases c1 : 0 < x.f0
          · by_cases c2 : 1 < (cnt l x.f0 : Int)
            · have hq := hyes (by skip; simp only [badV, Bool.or_eq_true, Bool.and_eq_true, decide_eq_true_eq]; omega)
              clear hyes hany
              go_wp2_with fail
              go_ret
              exact ⟨ret_i hq.out.symm, hB2.out⟩
            · have e2 : decide (1 < (cnt l x.f0 : Int)) = false := decide_eq_false c2
              replace c2 := Aside0.mk c2
              by_cases c3 : 0 < x.f2
              · by_cases c4 : (cnt l x.f2 : Int) = 0
                · have e4 : ((cnt l x.f2 : Int) == 0) = true := by simpa using c4
                  replace c4 := Aside0.mk c4
                  have hq := hyes (by have h4 := c4.out; simp only [badV, Bool.or_eq_true, Bool.and_eq_true, decide_eq_true_eq]; omega)
                  clear hyes hany
                  go_wp2_with fail
                  go_ret
                  exact ⟨ret_i hq.out.symm, hB2.out⟩
                · have e4 : ((cnt l x.f2 : Int) == 0) = false := by simpa using c4
                  replace c4 := Aside0.mk c4
                  go_wp2_with fail
                  go_roundw
                  case rel => exact ⟨i + 1, by omega, by go_num, hB2, hM, hany (by have h4 := c4.out; have h2 := c2.out; simp only [badV, Bool.or_eq_false_iff, Bool.and_eq_false_iff, decide_eq_false_iff_not]; omega)⟩
                  case measure => simp [intOf]; omega
              · have e3 : decide (0 < x.f2) = false := decide_eq_false c3
                replace c3 := Aside0.mk c3
                go_wp2_with fail
                go_roundw
                case rel => exact ⟨i + 1, by omega, by go_num, hB2, hM, hany (by have h3 := c3.out; have h2 := c2.out; simp only [badV, Bool.or_eq_false_iff, Bool.and_eq_false_iff, decide_eq_false_iff_not]; omega)⟩
                case measure => simp [intOf]; omega
          · have e1 : decide (0 < x.f0) = false := decide_eq_false c1
            replace c1 := Aside0.mk c1
            by_cases c3 : 0 < x.f2
            · by_cases c4 : (cnt l x.f2 : Int) = 0
              · have e4 : ((cnt l x.f2 : Int) == 0) = true := by simpa using c4
                replace c4 := Aside0.mk c4
                have hq := hyes (by have h4 := c4.out; simp only [badV, Bool.or_eq_true, Bool.and_eq_true, decide_eq_true_eq]; omega)
                clear hyes hany
                go_wp2_with fail
                go_ret
                exact ⟨ret_i hq.out.symm, hB2.out⟩
              · have e4 : ((cnt l x.f2 : Int) == 0) = false := by simpa using c4
                replace c4 := Aside0.mk c4
                go_wp2_with fail
                go_roundw
                case rel => exact ⟨i + 1, by omega, by go_num, hB2, hM, hany (by have h4 := c4.out; have h1 := c1.out; simp only [badV, Bool.or_eq_false_iff, Bool.and_eq_false_iff, decide_eq_false_iff_not]; omega)⟩
                case measure => simp [intOf]; omega
            · have e3 : decide (0 < x.f2) = false := decide_eq_false c3
              replace c3 := Aside0.mk c3
              go_wp2_with fail
              go_roundw
              case rel => exact ⟨i + 1, by omega, by go_num, hB2, hM, hany (by have h3 := c3.out; have h1 := c1.out; simp only [badV, Bool.or_eq_false_iff, Bool.and_eq_false_iff, decide_eq_false_iff_not]; omega)⟩
              case measure => simp [intOf]; omega
        · obtain rfl : i = l.length := by omega
          rw [List.take_length] at hall
          have hq := Aside0.mk (hok.out false hall.out)
          go_wp2_with fail
          go_ret
          exact ⟨ret_i hq.out.symm, hb.out⟩
end Go.Proofs.Ytdhmnjoceeolcaa.Asm
end
section
namespace Go.Proofs.Ytdhmnjoceeolcaa.Asm
open Go.RowKit Go.Proofs.YtdhmnjoceeolcaaW.PrintWords Go.Proofs.YtdhmnjoceeolcaaW.PrintLast Go.Proofs.YtdhmnjoceeolcaaW.PrintMore Go.Proofs.Ytdhmnjoceeolcaa.GF
set_option linter.unusedVariables false
set_option linter.unusedSimpArgs false
abbrev PP (b : Nat) : Value := .pointer (some ⟨b, 0, none⟩)
def is (l : List Int) : Array Value := (l.map (Value.int .i64)).toArray
def bs (l : List Bool) : Array Value := (l.map Value.bool).toArray
theorem is_cell {w : World} {g : Nat} {l : List Int} (h : w.heap[g]? = some (.cells (is l) 3 (0, 0))) (i : Nat) (hi : i < l.length) : w.cell? ⟨g, i, none⟩ = some (.int .i64 (l.getD i 0)) := by
  rw [blk_cell h i]
  simp [is, List.getD_eq_getElem?_getD, List.getElem?_eq_getElem hi]
theorem is_set {w : World} {g : Nat} {l : List Int} (h : w.heap[g]? = some (.cells (is l) 3 (0, 0))) (i : Nat) (x : Int) : (w.setCell ⟨g, i, none⟩ (.int .i64 x)).heap[g]? = some (.cells (is (l.set i x)) 3 (0, 0)) := by
  rw [blk_set h i (.int .i64 x)]; simp [is, List.map_set]
theorem bs_cell {w : World} {g : Nat} {l : List Bool} (h : w.heap[g]? = some (.cells (bs l) 4 (0, 0))) (i : Nat) (hi : i < l.length) : w.cell? ⟨g, i, none⟩ = some (.bool (l.getD i false)) := by
  rw [blk_cell h i]
  simp [bs, List.getD_eq_getElem?_getD, List.getElem?_eq_getElem hi]
theorem bs_set {w : World} {g : Nat} {l : List Bool} (h : w.heap[g]? = some (.cells (bs l) 4 (0, 0))) (i : Nat) (x : Bool) : (w.setCell ⟨g, i, none⟩ (.bool x)).heap[g]? = some (.cells (bs (l.set i x)) 4 (0, 0)) := by
  rw [blk_set h i (.bool x)]; simp [bs, List.map_set]
/-- How many words a line has. -/
def szV (x : S37) (b : Bool) : Int := if 0 < x.f0 then 0 else if b = true then 2 else 1
/-- Where a line begins. -/
def atV (l : List S37) (g : List Bool) : Nat → Int
  | 0 => 0
  | i + 1 => atV l g i + szV (l.getD i z37) (g.getD i false)
/-- Where labels stand. -/
def whM (l : List S37) (g : List Bool) (m : Mm) : Nat → Mm
  | 0 => m
  | i + 1 => if 0 < (l.getD i z37).f0 then up (whM l g m i) (l.getD i z37).f0 (atV l g i) else whM l g m i
theorem szV_range (x : S37) (b : Bool) : 0 ≤ szV x b ∧ szV x b ≤ 2 := by unfold szV; split; omega; split <;> omega
theorem atV_range (l : List S37) (g : List Bool) : ∀ i, 0 ≤ atV l g i ∧ atV l g i ≤ 2 * i
  | 0 => ⟨Int.le_refl _, Int.le_refl _⟩
  | i + 1 => by
    have := atV_range l g i
    have := szV_range (l.getD i z37) (g.getD i false)
    unfold atV
    omega
def ats (l : List S37) (g : List Bool) : List Int := (List.range (l.length + 1)).map (atV l g)
theorem ats_len (l : List S37) (g : List Bool) : (ats l g).length = l.length + 1 := by simp [ats]
theorem ats_at (l : List S37) (g : List Bool) (i : Nat) (h : i < l.length + 1) : (ats l g).getD i 0 = atV l g i := by
  simp [ats, List.getD_eq_getElem?_getD, h]
theorem ats_of (l : List S37) (g : List Bool) (a : List Int) (h : a.length = l.length + 1) (k : ∀ i, i < l.length + 1 → a.getD i 0 = atV l g i) : a = ats l g := by
  apply List.ext_getElem (by rw [h, ats_len])
  intro i h1 h2
  have := k i (by omega)
  rw [← ats_at l g i (by omega)] at this
  rwa [List.getD_eq_getElem?_getD, List.getElem?_eq_getElem h1, List.getD_eq_getElem?_getD, List.getElem?_eq_getElem h2] at this
/-- A layout in memory. -/
structure Ly (w wr : World) (n p ga gl m : Nat) (a : List Int) (g : List Bool) (es : Mm) : Prop where
  bp : wr.heap[p]? = some (.cells #[.slice (some ⟨ga, 0, none⟩) (n + 1) (n + 1), .slice (some ⟨gl, 0, none⟩) n n, .map (some m)] 50 (0, 0))
  ba : wr.heap[ga]? = some (.cells (is a) 3 (0, 0))
  bl : wr.heap[gl]? = some (.cells (bs g) 4 (0, 0))
  mp : Mp wr m es
  hp : w.heap.size ≤ p
  ha : w.heap.size ≤ ga
  hl : w.heap.size ≤ gl
  hm : w.heap.size ≤ m
  la : a.length = n + 1
  lg : g.length = n
  bel : Below w.heap.size w wr
section
variable {w wr w1 : World} {n p ga gl m : Nat} {a : List Int} {g : List Bool} {es : Mm}
theorem Ly.below (h : Ly w wr n p ga gl m a g es) (b : Below wr.heap.size wr w1) : Ly w w1 n p ga gl m a g es :=
  { h with bp := blk_below h.bp b, ba := blk_below h.ba b, bl := blk_below h.bl b, mp := h.mp.below b, bel := below_step h.bel b }
theorem Ly.setA (h : Ly w wr n p ga gl m a g es) (i : Nat) (x : Int) : Ly w (wr.setCell ⟨ga, i, none⟩ (.int .i64 x)) n p ga gl m (a.set i x) g es :=
  { h with bp := blk_far h.bp (blk_ne h.bp h.ba (by decide)) _, ba := is_set h.ba i x, bl := blk_far h.bl (blk_ne h.bl h.ba (by decide)) _, mp := h.mp.keep (Below.heap_setCell _ _ _ _ (fun e => (h.mp.cells h.ba) e.symm)), la := by rw [List.length_set]; exact h.la, bel := below_set h.bel h.ha }
theorem Ly.setL (h : Ly w wr n p ga gl m a g es) (i : Nat) (x : Bool) : Ly w (wr.setCell ⟨gl, i, none⟩ (.bool x)) n p ga gl m a (g.set i x) es :=
  { h with bp := blk_far h.bp (blk_ne h.bp h.bl (by decide)) _, ba := blk_far h.ba (blk_ne h.ba h.bl (by decide)) _, bl := bs_set h.bl i x, mp := h.mp.keep (Below.heap_setCell _ _ _ _ (fun e => (h.mp.cells h.bl) e.symm)), lg := by rw [List.length_set]; exact h.lg, bel := below_set h.bel h.hl }
theorem Ly.put (h : Ly w wr n p ga gl m a g es) (k x : Int) : Ly w (putM wr m k x) n p ga gl m a g (up es k x) :=
  { h with bp := (put_block h.mp k x _ (h.mp.cells h.bp)).trans h.bp, ba := (put_block h.mp k x _ (h.mp.cells h.ba)).trans h.ba, bl := (put_block h.mp k x _ (h.mp.cells h.bl)).trans h.bl, mp := put_mp h.mp k x, bel := put_below h.bel h.mp h.hm k x }
end
theorem size_some (x : S37) (b : Bool) : asm_size.f x.f0 x.f1.f0 x.f1.f1 x.f1.f2 x.f1.f3 x.f1.f4 x.f2 b = some (szV x b) := by
  unfold asm_size.f szV
  by_cases h : 0 < x.f0
  · rw [if_pos h, if_pos h]
  · rw [if_neg h, if_neg h]; split <;> rfl
set_option maxHeartbeats 16000000 in
set_option maxRecDepth 100000 in
theorem place_calls {w w0 : World} {A : Option Addr} {l : List S37} {c : Nat} (hL : Aside0 (Kd.C k37 w A l.length l)) (hlen : l.length ≤ 262144) {p ga gl m : Nat} {a : List Int} {g : List Bool} {es : Mm} (hY : Aside0 (Ly w w0 l.length p ga gl m a g es)) :
    Calls Try.prog 28 #[PP p, .slice A l.length c] w0 fun e w' => e = .returned (.tuple #[]) ∧ Ly w w' l.length p ga gl m (ats l g) g (whM l g es l.length) := by
  go_enter Try.func28, Try.ntmps28
  go_wp2_with fail
  go_loopw [4, 9] (fun u4 u9 wr => ∃ (i : Nat) (a' : List Int) (es' : Mm), i ≤ l.length ∧ u4 = .int .i64 (atV l g i) ∧ u9 = .int .i64 i ∧ Aside0 (Ly w wr l.length p ga gl m a' g es') ∧ Aside0 (∀ j, j < i → a'.getD j 0 = atV l g j) ∧ Aside0 (es' = whM l g es i)) (fun _ u _ => l.length - (intOf u).toNat)
  case atStart => exact ⟨0, _, _, Nat.zero_le _, rfl, rfl, hY, ⟨fun j hj => by omega⟩, ⟨rfl⟩⟩
  case round =>
    clear hY
    obtain ⟨i, a', es', hi, rfl, rfl, hY, ha, hes⟩ := hrel
    have hr1 := (atV_range l g i).1
    have hr2 := (atV_range l g i).2
    by_cases hlt : i < l.length
    · obtain ⟨ad, ea, a0, a1, a2, a3, a4, a5, a6⟩ := at_T37 (Kd.C_below hL.out hY.out.bel) (i : Int) (by omega) (by omega)
      subst ea
      simp only [Int.toNat_natCast, rd_L] at a0 a1 a2 a3 a4 a5 a6
      have hat : Aside0 (atV l g (i + 1) = atV l g i + szV (l.getD i z37) (g.getD i false)) := ⟨rfl⟩
      have hwh : Aside0 (whM l g es (i + 1) = if 0 < (l.getD i z37).f0 then up (whM l g es i) (l.getD i z37).f0 (atV l g i) else whM l g es i) := ⟨rfl⟩
      obtain ⟨bb, hbe⟩ : ∃ bb, Aside0 (g.getD i false = bb) := ⟨_, ⟨rfl⟩⟩
      rw [hbe.out] at hat
      have hX := Aside0.mk (blk_new wr (lb (l.getD i z37)))
      replace hY := Aside0.mk (hY.out.below (below_alloc (Below.refl wr.heap.size wr) (lb (l.getD i z37))))
      have hXn : Aside0 (wr.heap.size < (wr.alloc (lb (l.getD i z37))).heap.size) := ⟨by simp⟩
      have hga : Aside0 (ga ≠ wr.heap.size) := ⟨fun e => by have := hY.out.ba; rw [e, hX.out] at this; have := (Option.some.inj this); injection this with h1 h2; exact absurd h2 (by decide)⟩
      have q0 : (0 : Int) ≤ (i : Int) := by omega
      have q1 : (i : Int) < (l.length : Int) := by omega
      have q2 : (i : Int) < (l.length : Int) + 1 := by omega
      have ap1 := add_plain ga i
      have ap2 := add_plain gl i
      have hsz := Aside0.mk (size_some (l.getD i z37) bb)
      have hs1 := (szV_range (l.getD i z37) bb).1
      have hs2 := (szV_range (l.getD i z37) bb).2
      generalize l.getD i z37 = x at *
      go_upto_region 4 with (fail)
      generalize wr.alloc (lb x) = W at *
      generalize wr.heap.size = xb at *
      have y0 := (blk_cell hY.out.bp 0).trans (show _ = some (.slice (some ⟨ga, 0, none⟩) (l.length + 1) (l.length + 1)) from rfl)
      have y1 := (blk_cell hY.out.bp 1).trans (show _ = some (.slice (some ⟨gl, 0, none⟩) l.length l.length) from rfl)
      have y2 := (blk_cell hY.out.bp 2).trans (show _ = some (.map (some m)) from rfl)
      have hca : W.cell? ⟨ga, i, none⟩ = some (.int .i64 (a'.getD i 0)) := is_cell hY.out.ba i (by rw [hY.out.la]; omega)
      have hfa : W.frozen? ⟨ga, i, none⟩ = false := blk_frozen hY.out.ba i
      go_upto_region 5 with (fail)
      replace hX := Aside0.mk (blk_far hX.out (p := ⟨ga, i, none⟩) (fun e => hga.out e.symm) (.int .i64 (atV l g i)))
      replace hY := Aside0.mk (hY.out.setA i (atV l g i))
      have ha2 : Aside0 (∀ j, j < i + 1 → (a'.set i (atV l g i)).getD j 0 = atV l g j) := ⟨fun j hj => by
        by_cases e : j = i
        · subst e
          have hl : j < a'.length := by have := hY.out.la; rw [List.length_set] at this; omega
          rw [List.getD_eq_getElem?_getD, List.getElem?_set_self hl]; rfl
        · rw [List.getD_eq_getElem?_getD, List.getElem?_set_ne (fun h => e h.symm), ← List.getD_eq_getElem?_getD]; exact ha.out j (by omega)⟩
      generalize W.setCell ⟨ga, i, none⟩ (.int .i64 (atV l g i)) = W5 at *
      clear y0 y1 y2 hca hfa ha
      generalize a'.set i (atV l g i) = a2 at *
      have p0 := (blk_cell hX.out 0).trans (show _ = some (.int .i64 x.f0) from rfl)
      have p1 := (blk_cell hX.out 1).trans (show _ = some (.int .i64 x.f1.f0) from rfl)
      have p2 := (blk_cell hX.out 2).trans (show _ = some (.int .i64 x.f1.f1) from rfl)
      have p3 := (blk_cell hX.out 3).trans (show _ = some (.int .i64 x.f1.f2) from rfl)
      have p4 := (blk_cell hX.out 4).trans (show _ = some (.int .i64 x.f1.f3) from rfl)
      have p5 := (blk_cell hX.out 5).trans (show _ = some (.int .i32 x.f1.f4) from rfl)
      have p6 := (blk_cell hX.out 6).trans (show _ = some (.int .i64 x.f2) from rfl)
      have hwr : IntKind.i64.wrap (atV l g i + szV x bb) = atV l g i + szV x bb := IntWalk.i64_in _ (by omega)
      rw [← hes.out] at hwh
      by_cases hx0 : 0 < x.f0
      · rw [if_pos hx0] at hwh
        have y2 := (blk_cell hY.out.bp 2).trans (show _ = some (.map (some m)) from rfl)
        go_upto_region 6 with (fail)
        go_still_tail 7, (by kernel_rfl)
        change wpList _ _ _ _ _ W5.drew
        replace hX : Aside0 (W5.drew.heap[xb]? = _) := ⟨hX.out⟩
        replace hY := Aside0.mk (hY.out.below (below_drew (Below.refl _ _)))
        generalize W5.drew = W6 at *
        have hpt := put hY.out.mp x.f0 (atV l g i)
        have hXm : Aside0 ((putM W6 m x.f0 (atV l g i)).heap[xb]? = _) := ⟨(put_block hY.out.mp x.f0 (atV l g i) xb (hY.out.mp.cells hX.out)).trans hX.out⟩
        replace hY := Aside0.mk (hY.out.put x.f0 (atV l g i))
        replace hes : Aside0 (up es' x.f0 (atV l g i) = whM l g es (i + 1)) := ⟨hwh.out.symm⟩
        clear hX y2 p0 p1 p2 p3 p4 p5 p6
        go_upto_region 7 with (fail)
        generalize putM W6 m x.f0 (atV l g i) = W7 at *
        clear hpt
        have hX := hXm
        have p0 := (blk_cell hX.out 0).trans (show _ = some (.int .i64 x.f0) from rfl)
        have p1 := (blk_cell hX.out 1).trans (show _ = some (.int .i64 x.f1.f0) from rfl)
        have p2 := (blk_cell hX.out 2).trans (show _ = some (.int .i64 x.f1.f1) from rfl)
        have p3 := (blk_cell hX.out 3).trans (show _ = some (.int .i64 x.f1.f2) from rfl)
        have p4 := (blk_cell hX.out 4).trans (show _ = some (.int .i64 x.f1.f3) from rfl)
        have p5 := (blk_cell hX.out 5).trans (show _ = some (.int .i32 x.f1.f4) from rfl)
        have p6 := (blk_cell hX.out 6).trans (show _ = some (.int .i64 x.f2) from rfl)
        have y1 := (blk_cell hY.out.bp 1).trans (show _ = some (.slice (some ⟨gl, 0, none⟩) l.length l.length) from rfl)
        have hcl := bs_cell hY.out.bl i (by rw [hY.out.lg]; exact hlt)
        rw [hbe.out] at hcl
        go_upto_region 7 with (fail)
        refine start_ (n := 12) (S := fun w' => w'.cell? ⟨xb, 0, none⟩ = some (.int .i64 x.f0) ∧ w'.cell? ⟨xb, 1, none⟩ = some (.int .i64 x.f1.f0) ∧ w'.cell? ⟨xb, 2, none⟩ = some (.int .i64 x.f1.f1) ∧ w'.cell? ⟨xb, 3, none⟩ = some (.int .i64 x.f1.f2) ∧ w'.cell? ⟨xb, 4, none⟩ = some (.int .i64 x.f1.f3) ∧ w'.cell? ⟨xb, 5, none⟩ = some (.int .i32 x.f1.f4) ∧ w'.cell? ⟨xb, 6, none⟩ = some (.int .i64 x.f2) ∧ w'.cell? ⟨p, 1, none⟩ = some (.slice (some ⟨gl, 0, none⟩) l.length l.length) ∧ w'.cell? ⟨gl, i, none⟩ = some (.bool bb)) (ds := []) #[false, false, false, false, false, false, false, false, false, false, false, false] (by kernel_rfl) rfl rfl (⟨(blk_cell hX.out 0).trans rfl, (blk_cell hX.out 1).trans rfl, (blk_cell hX.out 2).trans rfl, (blk_cell hX.out 3).trans rfl, (blk_cell hX.out 4).trans rfl, (blk_cell hX.out 5).trans rfl, (blk_cell hX.out 6).trans rfl, (blk_cell hY.out.bp 1).trans rfl, (bs_cell hY.out.bl i (by rw [hY.out.lg]; exact hlt)).trans (by rw [hbe.out])⟩) (fun hHeld => ?_)
        replace hX : Aside0 (W7.drew.heap[xb]? = _) := ⟨hX.out⟩
        replace hY := Aside0.mk (hY.out.below (below_drew (Below.refl _ _)))
        clear p0 p1 p2 p3 p4 p5 p6 y1 hcl
        generalize W7.drew = W9 at *
        refine pure_ (i := 0) (N := some 31) (v := ?_) (a' := ?_) #[true, false, false, false, false, false, false, false, false, false, false, false] rfl rfl (by kernel_rfl) (fun _ _ _ h => h) (Or.inl ⟨by rfl, ?_⟩) ?_ ?_
        rotate_left
        · intro w'
          go_simp
          try with_reducible rfl
        rotate_left
        · simp only [Act.put, List.setIfInBounds_toArray, List.set_cons_zero, List.set_cons_succ]
          rfl
        refine take_ (i := 1) (N := some 32) (v := ?_) (a' := ?_) #[true, true, false, false, false, false, false, false, false, false, false, false] rfl rfl (by kernel_rfl) (fun _ _ _ h => h) (Or.inl ⟨by rfl, ?_⟩) hHeld ?_ ?_
        rotate_left
        · intro w' s0
          obtain ⟨s0_, s1_, s2_, s3_, s4_, s5_, s6_, s7_, s8_⟩ := s0
          go_simp
          try with_reducible rfl
        rotate_left
        · simp only [Act.put, List.setIfInBounds_toArray, List.set_cons_zero, List.set_cons_succ]
          rfl
        refine pure_ (i := 2) (N := some 33) (v := ?_) (a' := ?_) #[true, true, true, false, false, false, false, false, false, false, false, false] rfl rfl (by kernel_rfl) (fun _ _ _ h => h) (Or.inl ⟨by rfl, ?_⟩) ?_ ?_
        rotate_left
        · intro w'
          go_simp
          try with_reducible rfl
        rotate_left
        · simp only [Act.put, List.setIfInBounds_toArray, List.set_cons_zero, List.set_cons_succ]
          rfl
        refine pure_ (i := 3) (N := some 34) (v := ?_) (a' := ?_) #[true, true, true, true, false, false, false, false, false, false, false, false] rfl rfl (by kernel_rfl) (fun _ _ _ h => h) (Or.inl ⟨by rfl, ?_⟩) ?_ ?_
        rotate_left
        · intro w'
          go_simp
          try with_reducible rfl
        rotate_left
        · simp only [Act.put, List.setIfInBounds_toArray, List.set_cons_zero, List.set_cons_succ]
          rfl
        refine pure_ (i := 4) (N := some 35) (v := ?_) (a' := ?_) #[true, true, true, true, true, false, false, false, false, false, false, false] rfl rfl (by kernel_rfl) (fun _ _ _ h => h) (Or.inl ⟨by rfl, ?_⟩) ?_ ?_
        rotate_left
        · intro w'
          go_simp
          try with_reducible rfl
        rotate_left
        · simp only [Act.put, List.setIfInBounds_toArray, List.set_cons_zero, List.set_cons_succ]
          rfl
        refine take_ (i := 5) (N := some 36) (v := ?_) (a' := ?_) #[true, true, true, true, true, true, false, false, false, false, false, false] rfl rfl (by kernel_rfl) (fun _ _ _ h => h) (Or.inl ⟨by rfl, ?_⟩) hHeld ?_ ?_
        rotate_left
        · intro w' s0
          obtain ⟨s0_, s1_, s2_, s3_, s4_, s5_, s6_, s7_, s8_⟩ := s0
          go_simp
          try with_reducible rfl
        rotate_left
        · simp only [Act.put, List.setIfInBounds_toArray, List.set_cons_zero, List.set_cons_succ]
          rfl
        refine pure_ (i := 6) (N := some 37) (v := ?_) (a' := ?_) #[true, true, true, true, true, true, true, false, false, false, false, false] rfl rfl (by kernel_rfl) (fun _ _ _ h => h) (Or.inl ⟨by rfl, ?_⟩) ?_ ?_
        rotate_left
        · intro w'
          go_simp
          try with_reducible rfl
        rotate_left
        · simp only [Act.put, List.setIfInBounds_toArray, List.set_cons_zero, List.set_cons_succ]
          rfl
        refine pure_ (i := 7) (N := some 38) (v := ?_) (a' := ?_) #[true, true, true, true, true, true, true, true, false, false, false, false] rfl rfl (by kernel_rfl) (fun _ _ _ h => h) (Or.inl ⟨by rfl, ?_⟩) ?_ ?_
        rotate_left
        · intro w'
          go_simp
          try with_reducible rfl
        rotate_left
        · simp only [Act.put, List.setIfInBounds_toArray, List.set_cons_zero, List.set_cons_succ]
          rfl
        refine take_ (i := 8) (N := some 39) (v := ?_) (a' := ?_) #[true, true, true, true, true, true, true, true, true, false, false, false] rfl rfl (by kernel_rfl) (fun _ _ _ h => h) (Or.inl ⟨by rfl, ?_⟩) hHeld ?_ ?_
        rotate_left
        · intro w' s0
          obtain ⟨s0_, s1_, s2_, s3_, s4_, s5_, s6_, s7_, s8_⟩ := s0
          go_simp
          try with_reducible rfl
        rotate_left
        · simp only [Act.put, List.setIfInBounds_toArray, List.set_cons_zero, List.set_cons_succ]
          rfl
        refine one_ (i := 9) (N := some 40) #[true, true, true, true, true, true, true, true, true, true, false, false] rfl rfl (by kernel_rfl) (by decide) (fun K hK => ?_)
        refine call_ 36 #[.agg #[.int .i64 x.f0, .int .i64 x.f1.f0, .int .i64 x.f1.f1, .int .i64 x.f1.f2, .int .i64 x.f1.f3, .int .i32 x.f1.f4, .int .i64 x.f2], .bool bb] (by rfl) rfl (by go_simp) ?_
        refine (asm_size.calls _ _ _ _ _ _ _ bb _ _ hsz.out).mono ?_
        rintro e w1 ⟨rfl, hb1⟩
        replace hb1 := Aside0.mk hb1
        refine ⟨_, rfl, ?_⟩
        refine hK.out _ _ ⟨(blk_cell (blk_below hX.out hb1.out) 0).trans rfl, (blk_cell (blk_below hX.out hb1.out) 1).trans rfl, (blk_cell (blk_below hX.out hb1.out) 2).trans rfl, (blk_cell (blk_below hX.out hb1.out) 3).trans rfl, (blk_cell (blk_below hX.out hb1.out) 4).trans rfl, (blk_cell (blk_below hX.out hb1.out) 5).trans rfl, (blk_cell (blk_below hX.out hb1.out) 6).trans rfl, (blk_cell (hY.out.below hb1.out).bp 1).trans rfl, (bs_cell (hY.out.below hb1.out).bl i (by rw [hY.out.lg]; exact hlt)).trans (by rw [hbe.out])⟩ (fun hHeld => ?_)
        clear hK K
        refine norm_ (a' := ?_) ?_ ?_
        rotate_left
        · simp only [Act.put, List.setIfInBounds_toArray, List.set_cons_zero, List.set_cons_succ]
          rfl
        refine pure_ (i := 10) (N := some 41) (v := ?_) (a' := ?_) #[true, true, true, true, true, true, true, true, true, true, true, false] rfl rfl (by kernel_rfl) (fun _ _ _ h => h) (Or.inl ⟨by rfl, ?_⟩) ?_ ?_
        rotate_left
        · intro w'
          go_simp
          try with_reducible rfl
        rotate_left
        · simp only [Act.put, List.setIfInBounds_toArray, List.set_cons_zero, List.set_cons_succ]
          rfl
        refine pure_ (i := 11) (N := some 4) (v := ?_) (a' := ?_) #[true, true, true, true, true, true, true, true, true, true, true, true] rfl rfl (by kernel_rfl) (fun _ _ _ h => h) (Or.inl ⟨by rfl, ?_⟩) ?_ ?_
        rotate_left
        · intro w'
          go_simp
          try with_reducible rfl
        rotate_left
        · simp only [Act.put, List.setIfInBounds_toArray, List.set_cons_zero, List.set_cons_succ]
          rfl
        refine done_ (by kernel_rfl) ?_
        go_wp2_with fail
        go_roundw
        case rel => exact ⟨i + 1, _, _, by omega, by rw [hat.out], by go_num, ⟨hY.out.below hb1.out⟩, ha2, hes⟩
        case measure => simp [intOf]; omega
      · rw [if_neg hx0] at hwh
        replace hes : Aside0 (es' = whM l g es (i + 1)) := ⟨hwh.out.symm⟩
        have y1 := (blk_cell hY.out.bp 1).trans (show _ = some (.slice (some ⟨gl, 0, none⟩) l.length l.length) from rfl)
        have hcl := bs_cell hY.out.bl i (by rw [hY.out.lg]; exact hlt)
        rw [hbe.out] at hcl
        go_upto_region 7 with (fail)
        refine start_ (n := 12) (S := fun w' => w'.cell? ⟨xb, 0, none⟩ = some (.int .i64 x.f0) ∧ w'.cell? ⟨xb, 1, none⟩ = some (.int .i64 x.f1.f0) ∧ w'.cell? ⟨xb, 2, none⟩ = some (.int .i64 x.f1.f1) ∧ w'.cell? ⟨xb, 3, none⟩ = some (.int .i64 x.f1.f2) ∧ w'.cell? ⟨xb, 4, none⟩ = some (.int .i64 x.f1.f3) ∧ w'.cell? ⟨xb, 5, none⟩ = some (.int .i32 x.f1.f4) ∧ w'.cell? ⟨xb, 6, none⟩ = some (.int .i64 x.f2) ∧ w'.cell? ⟨p, 1, none⟩ = some (.slice (some ⟨gl, 0, none⟩) l.length l.length) ∧ w'.cell? ⟨gl, i, none⟩ = some (.bool bb)) (ds := []) #[false, false, false, false, false, false, false, false, false, false, false, false] (by kernel_rfl) rfl rfl (⟨(blk_cell hX.out 0).trans rfl, (blk_cell hX.out 1).trans rfl, (blk_cell hX.out 2).trans rfl, (blk_cell hX.out 3).trans rfl, (blk_cell hX.out 4).trans rfl, (blk_cell hX.out 5).trans rfl, (blk_cell hX.out 6).trans rfl, (blk_cell hY.out.bp 1).trans rfl, (bs_cell hY.out.bl i (by rw [hY.out.lg]; exact hlt)).trans (by rw [hbe.out])⟩) (fun hHeld => ?_)
        replace hX : Aside0 (W5.drew.heap[xb]? = _) := ⟨hX.out⟩
        replace hY := Aside0.mk (hY.out.below (below_drew (Below.refl _ _)))
        clear p0 p1 p2 p3 p4 p5 p6 y1 hcl
        generalize W5.drew = W9 at *
        refine pure_ (i := 0) (N := some 31) (v := ?_) (a' := ?_) #[true, false, false, false, false, false, false, false, false, false, false, false] rfl rfl (by kernel_rfl) (fun _ _ _ h => h) (Or.inl ⟨by rfl, ?_⟩) ?_ ?_
        rotate_left
        · intro w'
          go_simp
          try with_reducible rfl
        rotate_left
        · simp only [Act.put, List.setIfInBounds_toArray, List.set_cons_zero, List.set_cons_succ]
          rfl
        refine take_ (i := 1) (N := some 32) (v := ?_) (a' := ?_) #[true, true, false, false, false, false, false, false, false, false, false, false] rfl rfl (by kernel_rfl) (fun _ _ _ h => h) (Or.inl ⟨by rfl, ?_⟩) hHeld ?_ ?_
        rotate_left
        · intro w' s0
          obtain ⟨s0_, s1_, s2_, s3_, s4_, s5_, s6_, s7_, s8_⟩ := s0
          go_simp
          try with_reducible rfl
        rotate_left
        · simp only [Act.put, List.setIfInBounds_toArray, List.set_cons_zero, List.set_cons_succ]
          rfl
        refine pure_ (i := 2) (N := some 33) (v := ?_) (a' := ?_) #[true, true, true, false, false, false, false, false, false, false, false, false] rfl rfl (by kernel_rfl) (fun _ _ _ h => h) (Or.inl ⟨by rfl, ?_⟩) ?_ ?_
        rotate_left
        · intro w'
          go_simp
          try with_reducible rfl
        rotate_left
        · simp only [Act.put, List.setIfInBounds_toArray, List.set_cons_zero, List.set_cons_succ]
          rfl
        refine pure_ (i := 3) (N := some 34) (v := ?_) (a' := ?_) #[true, true, true, true, false, false, false, false, false, false, false, false] rfl rfl (by kernel_rfl) (fun _ _ _ h => h) (Or.inl ⟨by rfl, ?_⟩) ?_ ?_
        rotate_left
        · intro w'
          go_simp
          try with_reducible rfl
        rotate_left
        · simp only [Act.put, List.setIfInBounds_toArray, List.set_cons_zero, List.set_cons_succ]
          rfl
        refine pure_ (i := 4) (N := some 35) (v := ?_) (a' := ?_) #[true, true, true, true, true, false, false, false, false, false, false, false] rfl rfl (by kernel_rfl) (fun _ _ _ h => h) (Or.inl ⟨by rfl, ?_⟩) ?_ ?_
        rotate_left
        · intro w'
          go_simp
          try with_reducible rfl
        rotate_left
        · simp only [Act.put, List.setIfInBounds_toArray, List.set_cons_zero, List.set_cons_succ]
          rfl
        refine take_ (i := 5) (N := some 36) (v := ?_) (a' := ?_) #[true, true, true, true, true, true, false, false, false, false, false, false] rfl rfl (by kernel_rfl) (fun _ _ _ h => h) (Or.inl ⟨by rfl, ?_⟩) hHeld ?_ ?_
        rotate_left
        · intro w' s0
          obtain ⟨s0_, s1_, s2_, s3_, s4_, s5_, s6_, s7_, s8_⟩ := s0
          go_simp
          try with_reducible rfl
        rotate_left
        · simp only [Act.put, List.setIfInBounds_toArray, List.set_cons_zero, List.set_cons_succ]
          rfl
        refine pure_ (i := 6) (N := some 37) (v := ?_) (a' := ?_) #[true, true, true, true, true, true, true, false, false, false, false, false] rfl rfl (by kernel_rfl) (fun _ _ _ h => h) (Or.inl ⟨by rfl, ?_⟩) ?_ ?_
        rotate_left
        · intro w'
          go_simp
          try with_reducible rfl
        rotate_left
        · simp only [Act.put, List.setIfInBounds_toArray, List.set_cons_zero, List.set_cons_succ]
          rfl
        refine pure_ (i := 7) (N := some 38) (v := ?_) (a' := ?_) #[true, true, true, true, true, true, true, true, false, false, false, false] rfl rfl (by kernel_rfl) (fun _ _ _ h => h) (Or.inl ⟨by rfl, ?_⟩) ?_ ?_
        rotate_left
        · intro w'
          go_simp
          try with_reducible rfl
        rotate_left
        · simp only [Act.put, List.setIfInBounds_toArray, List.set_cons_zero, List.set_cons_succ]
          rfl
        refine take_ (i := 8) (N := some 39) (v := ?_) (a' := ?_) #[true, true, true, true, true, true, true, true, true, false, false, false] rfl rfl (by kernel_rfl) (fun _ _ _ h => h) (Or.inl ⟨by rfl, ?_⟩) hHeld ?_ ?_
        rotate_left
        · intro w' s0
          obtain ⟨s0_, s1_, s2_, s3_, s4_, s5_, s6_, s7_, s8_⟩ := s0
          go_simp
          try with_reducible rfl
        rotate_left
        · simp only [Act.put, List.setIfInBounds_toArray, List.set_cons_zero, List.set_cons_succ]
          rfl
        refine one_ (i := 9) (N := some 40) #[true, true, true, true, true, true, true, true, true, true, false, false] rfl rfl (by kernel_rfl) (by decide) (fun K hK => ?_)
        refine call_ 36 #[.agg #[.int .i64 x.f0, .int .i64 x.f1.f0, .int .i64 x.f1.f1, .int .i64 x.f1.f2, .int .i64 x.f1.f3, .int .i32 x.f1.f4, .int .i64 x.f2], .bool bb] (by rfl) rfl (by go_simp) ?_
        refine (asm_size.calls _ _ _ _ _ _ _ bb _ _ hsz.out).mono ?_
        rintro e w1 ⟨rfl, hb1⟩
        replace hb1 := Aside0.mk hb1
        refine ⟨_, rfl, ?_⟩
        refine hK.out _ _ ⟨(blk_cell (blk_below hX.out hb1.out) 0).trans rfl, (blk_cell (blk_below hX.out hb1.out) 1).trans rfl, (blk_cell (blk_below hX.out hb1.out) 2).trans rfl, (blk_cell (blk_below hX.out hb1.out) 3).trans rfl, (blk_cell (blk_below hX.out hb1.out) 4).trans rfl, (blk_cell (blk_below hX.out hb1.out) 5).trans rfl, (blk_cell (blk_below hX.out hb1.out) 6).trans rfl, (blk_cell (hY.out.below hb1.out).bp 1).trans rfl, (bs_cell (hY.out.below hb1.out).bl i (by rw [hY.out.lg]; exact hlt)).trans (by rw [hbe.out])⟩ (fun hHeld => ?_)
        clear hK K
        refine norm_ (a' := ?_) ?_ ?_
        rotate_left
        · simp only [Act.put, List.setIfInBounds_toArray, List.set_cons_zero, List.set_cons_succ]
          rfl
        refine pure_ (i := 10) (N := some 41) (v := ?_) (a' := ?_) #[true, true, true, true, true, true, true, true, true, true, true, false] rfl rfl (by kernel_rfl) (fun _ _ _ h => h) (Or.inl ⟨by rfl, ?_⟩) ?_ ?_
        rotate_left
        · intro w'
          go_simp
          try with_reducible rfl
        rotate_left
        · simp only [Act.put, List.setIfInBounds_toArray, List.set_cons_zero, List.set_cons_succ]
          rfl
        refine pure_ (i := 11) (N := some 4) (v := ?_) (a' := ?_) #[true, true, true, true, true, true, true, true, true, true, true, true] rfl rfl (by kernel_rfl) (fun _ _ _ h => h) (Or.inl ⟨by rfl, ?_⟩) ?_ ?_
        rotate_left
        · intro w'
          go_simp
          try with_reducible rfl
        rotate_left
        · simp only [Act.put, List.setIfInBounds_toArray, List.set_cons_zero, List.set_cons_succ]
          rfl
        refine done_ (by kernel_rfl) ?_
        go_wp2_with fail
        go_roundw
        case rel => exact ⟨i + 1, _, _, by omega, by rw [hat.out], by go_num, ⟨hY.out.below hb1.out⟩, ha2, hes⟩
        case measure => simp [intOf]; omega
    · obtain rfl : i = l.length := by omega
      have y0 := (blk_cell hY.out.bp 0).trans (show _ = some (.slice (some ⟨ga, 0, none⟩) (l.length + 1) (l.length + 1)) from rfl)
      have ap1 := add_plain ga l.length
      have q2 : (l.length : Int) < (l.length : Int) + 1 := by omega
      have hca : wr.cell? ⟨ga, l.length, none⟩ = some (.int .i64 (a'.getD l.length 0)) := is_cell hY.out.ba l.length (by rw [hY.out.la]; omega)
      have hfa : wr.frozen? ⟨ga, l.length, none⟩ = false := blk_frozen hY.out.ba l.length
      have hY2 := Aside0.mk (hY.out.setA l.length (atV l g l.length))
      have hend : Aside0 (a'.set l.length (atV l g l.length) = ats l g) := ⟨ats_of l g _ (by rw [List.length_set]; exact hY.out.la) fun j hj => by
        by_cases e : j = l.length
        · subst e
          rw [List.getD_eq_getElem?_getD, List.getElem?_set_self (by rw [hY.out.la]; omega)]; rfl
        · rw [List.getD_eq_getElem?_getD, List.getElem?_set_ne (fun h => e h.symm), ← List.getD_eq_getElem?_getD]; exact ha.out j (by omega)⟩
      rw [hend.out, hes.out] at hY2
      clear hY
      go_wp2_with fail
      go_end0
      exact ⟨rfl, hY2.out⟩
end Go.Proofs.Ytdhmnjoceeolcaa.Asm
end
