-- laid by given.sh
import Derived.Test.YtdhmnjoceeolcaaGFx0
import Derived.Test.YtdhmnjoceeolcaaGFx2
import Derived.Test.YtdhmnjoceeolcaaGFx4
import Derived.Test.YtdhmnjoceeolcaaAsH
namespace Go.Proofs.Ytdhmnjoceeolcaa.GF
open Go.RowKit Go.Proofs.YtdhmnjoceeolcaaW.PrintWords Go.Proofs.YtdhmnjoceeolcaaW.PrintLast Go.Proofs.YtdhmnjoceeolcaaW.PrintMore
attribute [local go_sem] max2_int min2_int max_two min_two max_three min_three max_four min_four   -- for this text's walks alone
set_option linter.unusedVariables false
set_option linter.unusedSimpArgs false

/-! ### cruciblelaw06_AsmNames: function 4 -/
mutual
def cruciblelaw06_AsmNames.l0 : Nat → Int → List (S37) → List (S37) → Int → Option (Bool)
  | 0, _, _, _, _ => none
  | k + 1, x1, x5, x6, x7 => if x7 < (x6.length : Int) then (if 0 ≤ x7 then (if ((rd_T37 x6 x7).f0) > 1099511627776 then (cruciblelaw06_AsmNames.j1 k x1 x5 x6 x7 true) else (cruciblelaw06_AsmNames.j1 k x1 x5 x6 x7 (decide (((rd_T37 x6 x7).f2) > 1099511627776)))) else (none)) else ((cruciblelaw06_own.f x5).bind fun t152 => ((asm_Assemble.f t152).bind fun bt155 => ((asm_Assemble.f x6).bind fun bt157 => (if bt155.1.toList = bt157.1.toList then (if bt155.2 = bt157.2 then ((cruciblelaw06_awake.f).bind fun t159 => (some t159)) else (some false)) else (some false)))))
def cruciblelaw06_AsmNames.j1 : Nat → Int → List (S37) → List (S37) → Int → Bool → Option (Bool)
  | 0, _, _, _, _, _ => none
  | k + 1, x1, x5, x6, x7, x35 => if x35 = true then ((cruciblelaw06_awake.f).bind fun t142 => (some t142)) else (if 0 ≤ x7 then (if x7 < (x6.length : Int) then (if ((rd_T37 x6 x7).f0) > 0 then ((some (x6.set (x7 : Int).toNat (⟨wrap64 ((wrap64 (((rd_T37 x6 x7).f0) * 3)) + (wrap64 (x1))), (⟨(rd_T37 x6 x7).f1.f0, (rd_T37 x6 x7).f1.f1, (rd_T37 x6 x7).f1.f2, (rd_T37 x6 x7).f1.f3, (rd_T37 x6 x7).f1.f4⟩ : S24), (rd_T37 x6 x7).f2⟩ : S37) : List (S37))).bind fun y145 => (if ((rd_T37 y145 x7).f2) > 0 then (cruciblelaw06_AsmNames.l0 k x1 x5 (y145.set (x7 : Int).toNat (⟨(rd_T37 y145 x7).f0, (⟨(rd_T37 y145 x7).f1.f0, (rd_T37 y145 x7).f1.f1, (rd_T37 y145 x7).f1.f2, (rd_T37 y145 x7).f1.f3, (rd_T37 y145 x7).f1.f4⟩ : S24), wrap64 ((wrap64 (((rd_T37 y145 x7).f2) * 3)) + (wrap64 (x1)))⟩ : S37)) (wrap64 (x7 + 1))) else (cruciblelaw06_AsmNames.l0 k x1 x5 y145 (wrap64 (x7 + 1))))) else (if ((rd_T37 x6 x7).f2) > 0 then (cruciblelaw06_AsmNames.l0 k x1 x5 (x6.set (x7 : Int).toNat (⟨(rd_T37 x6 x7).f0, (⟨(rd_T37 x6 x7).f1.f0, (rd_T37 x6 x7).f1.f1, (rd_T37 x6 x7).f1.f2, (rd_T37 x6 x7).f1.f3, (rd_T37 x6 x7).f1.f4⟩ : S24), wrap64 ((wrap64 (((rd_T37 x6 x7).f2) * 3)) + (wrap64 (x1)))⟩ : S37)) (wrap64 (x7 + 1))) else (cruciblelaw06_AsmNames.l0 k x1 x5 x6 (wrap64 (x7 + 1))))) else (none)) else (none))
end
def cruciblelaw06_AsmNames.f (k : Nat) (l0_0 : List (S37)) (a0_1 : Int) (a0_2 : Int) (a0_3 : Int) (a0_4 : Int) (a0_5 : Int) (a0_6 : Int) (l0_7 : List (S37)) (a1 : Int) : Option (Bool) := (cruciblelaw06_Lines.f k l0_0 a0_1 a0_2 a0_3 a0_4 a0_5 a0_6 l0_7).bind fun t134 => ((cruciblelaw06_own.f t134).bind fun t137 => (cruciblelaw06_AsmNames.l0 k a1 t134 t137 0))
theorem cruciblelaw06_AsmNames.mono_l : ∀ k, (∀ y0 y1 y2 y3, LeO (cruciblelaw06_AsmNames.l0 k y0 y1 y2 y3) (cruciblelaw06_AsmNames.l0 (k + 1) y0 y1 y2 y3)) ∧ (∀ y0 y1 y2 y3 y4, LeO (cruciblelaw06_AsmNames.j1 k y0 y1 y2 y3 y4) (cruciblelaw06_AsmNames.j1 (k + 1) y0 y1 y2 y3 y4))
  | 0 => ⟨fun _ _ _ _ r h => by simp [cruciblelaw06_AsmNames.l0] at h, fun _ _ _ _ _ r h => by simp [cruciblelaw06_AsmNames.j1] at h⟩
  | k + 1 => by
    obtain ⟨ih0, ih1⟩ := cruciblelaw06_AsmNames.mono_l k
    refine ⟨?_, ?_⟩
    · intro y0 y1 y2 y3
      unfold cruciblelaw06_AsmNames.l0
      repeat' first
      | (with_reducible exact ih0 _ _ _ _)
      | (with_reducible exact ih1 _ _ _ _ _)
      | (with_reducible exact cruciblelaw06_Lines.mono _ _ _ _ _ _ _ _ _)
      | (with_reducible exact LeO.refl _)
      | (with_reducible exact LeO.none _)
      | (with_reducible refine LeO.ite ?_ ?_)
      | (with_reducible refine LeO.bind ?_ (fun _ => ?_))
      | exact ih0 _ _ _ _
      | exact ih1 _ _ _ _ _
      | exact cruciblelaw06_Lines.mono _ _ _ _ _ _ _ _ _
      | exact LeO.none _
      | refine LeO.ite ?_ ?_
      | refine LeO.bind ?_ (fun _ => ?_)
    · intro y0 y1 y2 y3 y4
      unfold cruciblelaw06_AsmNames.j1
      repeat' first
      | (with_reducible exact ih0 _ _ _ _)
      | (with_reducible exact ih1 _ _ _ _ _)
      | (with_reducible exact cruciblelaw06_Lines.mono _ _ _ _ _ _ _ _ _)
      | (with_reducible exact LeO.refl _)
      | (with_reducible exact LeO.none _)
      | (with_reducible refine LeO.ite ?_ ?_)
      | (with_reducible refine LeO.bind ?_ (fun _ => ?_))
      | exact ih0 _ _ _ _
      | exact ih1 _ _ _ _ _
      | exact cruciblelaw06_Lines.mono _ _ _ _ _ _ _ _ _
      | exact LeO.none _
      | refine LeO.ite ?_ ?_
      | refine LeO.bind ?_ (fun _ => ?_)
theorem cruciblelaw06_AsmNames.mono : ∀ a0 a1 a2 a3 a4 a5 a6 a7 a8 k, LeO (cruciblelaw06_AsmNames.f k a0 a1 a2 a3 a4 a5 a6 a7 a8) (cruciblelaw06_AsmNames.f (k + 1) a0 a1 a2 a3 a4 a5 a6 a7 a8) := by
  intro a0 a1 a2 a3 a4 a5 a6 a7 a8 k
  obtain ⟨ih0, ih1⟩ := cruciblelaw06_AsmNames.mono_l k
  unfold cruciblelaw06_AsmNames.f
  repeat' first
      | (with_reducible exact ih0 _ _ _ _)
      | (with_reducible exact ih1 _ _ _ _ _)
      | (with_reducible exact cruciblelaw06_Lines.mono _ _ _ _ _ _ _ _ _)
      | (with_reducible exact LeO.refl _)
      | (with_reducible exact LeO.none _)
      | (with_reducible refine LeO.ite ?_ ?_)
      | (with_reducible refine LeO.bind ?_ (fun _ => ?_))
      | exact ih0 _ _ _ _
      | exact ih1 _ _ _ _ _
      | exact cruciblelaw06_Lines.mono _ _ _ _ _ _ _ _ _
      | exact LeO.none _
      | refine LeO.ite ?_ ?_
      | refine LeO.bind ?_ (fun _ => ?_)
set_option maxHeartbeats 8000000 in
set_option maxRecDepth 100000 in
theorem cruciblelaw06_AsmNames.calls (k : Nat) (A0_0 : Option Addr) (c0_0 : Nat) (l0_0 : List (S37)) (a0_1 : Int) (a0_2 : Int) (a0_3 : Int) (a0_4 : Int) (a0_5 : Int) (a0_6 : Int) (A0_7 : Option Addr) (c0_7 : Nat) (l0_7 : List (S37)) (a1 : Int) (r : Bool) (w : World) (hr0_0 : Kd.C k37 w A0_0 l0_0.length l0_0) (hc0_0 : l0_0.length ≤ c0_0) (hr0_7 : Kd.C k37 w A0_7 l0_7.length l0_7) (hc0_7 : l0_7.length ≤ c0_7) (h : cruciblelaw06_AsmNames.f k l0_0 a0_1 a0_2 a0_3 a0_4 a0_5 a0_6 l0_7 a1 = some r) :
    Calls Try.prog 4 #[.agg #[.slice A0_0 l0_0.length c0_0, .int .i64 a0_1, .int .i64 a0_2, .int .i64 a0_3, .int .i64 a0_4, .int .i32 a0_5, .int .i64 a0_6, .slice A0_7 l0_7.length c0_7], .int .u16 a1] w fun e w' => e = .returned (.bool r) ∧ Below w.heap.size w w' := by
  have hu26 := Try.underlying26
  have HR0_0 := Aside0.mk hr0_0
  have HC0_0 := Aside0.mk hc0_0
  clear hr0_0 hc0_0
  have HR0_7 := Aside0.mk hr0_7
  have HC0_7 := Aside0.mk hc0_7
  clear hr0_7 hc0_7
  have HB := Aside0.mk (Below.refl w.heap.size w)
  have H : ((cruciblelaw06_Lines.f k l0_0 a0_1 a0_2 a0_3 a0_4 a0_5 a0_6 l0_7).bind fun t134 => ((cruciblelaw06_own.f t134).bind fun t137 => (cruciblelaw06_AsmNames.l0 k a1 t134 t137 0))) = some r := h
  clear h
  replace H := Option.bind_eq_some_iff.mp H
  obtain ⟨t134, A30, H⟩ := H
  replace H : ((cruciblelaw06_own.f t134).bind fun t137 => (cruciblelaw06_AsmNames.l0 k a1 t134 t137 0)) = some r := H
  have A3 := Aside0.mk A30
  clear A30
  replace H := Option.bind_eq_some_iff.mp H
  obtain ⟨t137, A40, H⟩ := H
  replace H : (cruciblelaw06_AsmNames.l0 k a1 t134 t137 0) = some r := H
  have A4 := Aside0.mk A40
  clear A40
  have H' := Aside0.mk H
  clear H
  go_enter Try.func4, Try.ntmps4
  go_wp2_with (first | ((with_reducible refine gate_dst (N := 2) rfl ?_); refine box_event ?hg (N := 2) ?hd (cs := #[.slice A0_0 l0_0.length c0_0, .int .i64 a0_1, .int .i64 a0_2, .int .i64 a0_3, .int .i64 a0_4, .int .i32 a0_5, .int .i64 a0_6, .slice A0_7 l0_7.length c0_7]) (t := 26) ?hr ?_; (case hd => rfl); (case hg => rfl); (case hr => first | (go_simp; done) | (go_simp; rfl)); intro gb133 hg w5 hbox hb; have n0_ := Aside0.mk (below_step (by repeat (first | (with_reducible first | exact HB.out | apply below_alloc | apply pw_below_drewN | apply below_drew1) | exact HB.out)) hb); have n1_ := Aside0.mk (hbox); have n2_ := Aside0.mk ((by rw [hg]; exact (below_size (by repeat (first | (with_reducible first | exact HB.out | apply below_alloc | apply pw_below_drewN | apply below_drew1) | exact HB.out))) : w.heap.size ≤ gb133)); have n3_ := Aside0.mk ((by rw [hg]; exact (below_size (by repeat (first | (with_reducible first | exact HB.out | apply below_alloc | apply pw_below_drewN | apply below_drew1) | exact HB.out))) : w.heap.size ≤ gb133)); clear HB; have HB := n0_; have BK133 := n1_; have GW133 := n2_; have GE133 := n3_; clear n0_ n1_ n2_ n3_; clear hb hbox hg; have hcz6_0 : w5.cell? ⟨gb133, 0, none⟩ = some (.slice A0_0 l0_0.length c0_0) := (blk_cell BK133.out 0).trans rfl; have hcz6_1 : w5.cell? ⟨gb133, 1, none⟩ = some (.int .i64 a0_1) := (blk_cell BK133.out 1).trans rfl; have hcz6_2 : w5.cell? ⟨gb133, 2, none⟩ = some (.int .i64 a0_2) := (blk_cell BK133.out 2).trans rfl; have hcz6_3 : w5.cell? ⟨gb133, 3, none⟩ = some (.int .i64 a0_3) := (blk_cell BK133.out 3).trans rfl; have hcz6_4 : w5.cell? ⟨gb133, 4, none⟩ = some (.int .i64 a0_4) := (blk_cell BK133.out 4).trans rfl; have hcz6_5 : w5.cell? ⟨gb133, 5, none⟩ = some (.int .i32 a0_5) := (blk_cell BK133.out 5).trans rfl; have hcz6_6 : w5.cell? ⟨gb133, 6, none⟩ = some (.int .i64 a0_6) := (blk_cell BK133.out 6).trans rfl; have hcz6_7 : w5.cell? ⟨gb133, 7, none⟩ = some (.slice A0_7 l0_7.length c0_7) := (blk_cell BK133.out 7).trans rfl; have hfz6_0 := blk_frozen BK133.out 0; have hfz6_1 := blk_frozen BK133.out 1; have hfz6_2 := blk_frozen BK133.out 2; have hfz6_3 := blk_frozen BK133.out 3; have hfz6_4 := blk_frozen BK133.out 4; have hfz6_5 := blk_frozen BK133.out 5; have hfz6_6 := blk_frozen BK133.out 6; have hfz6_7 := blk_frozen BK133.out 7) | ((with_reducible refine gate_callee (f := 7) rfl ?_); refine goesL_ (some 13) rfl rfl Try.func7 (by kernel_rfl) rfl #[.agg #[.slice A0_0 l0_0.length c0_0, .int .i64 a0_1, .int .i64 a0_2, .int .i64 a0_3, .int .i64 a0_4, .int .i32 a0_5, .int .i64 a0_6, .slice A0_7 l0_7.length c0_7]] rfl (by (try simp only [List.map_toArray, List.map_cons, List.map_nil]); first | done | rfl | (simp only [List.length_drop, List.length_take]; rfl)) ?_; (with_reducible refine (cruciblelaw06_Lines.calls k _ _ l0_0 a0_1 a0_2 a0_3 a0_4 a0_5 a0_6 _ _ l0_7 t134 _ ?side1 ?side2 ?side3 ?side4 A3.out).mono ?_); (case side1 => repeat (first | exact (Kd.C_below HR0_0.out HB.out) | (with_reducible refine Kd.C_alloc ?_ _) | (with_reducible refine Kd.C_drewN ?_ _) | (with_reducible refine Kd.C_drew ?_))); (case side2 => exact HC0_0.out); (case side3 => repeat (first | exact (Kd.C_below HR0_7.out HB.out) | (with_reducible refine Kd.C_alloc ?_ _) | (with_reducible refine Kd.C_drewN ?_ _) | (with_reducible refine Kd.C_drew ?_))); (case side4 => exact HC0_7.out); rintro e w7 ⟨v135, rfl, ho0, hb⟩; refine ⟨_, rfl, ?_⟩; have n0_ := Aside0.mk (Kd.R_lower ho0 (below_size (by repeat (first | (with_reducible first | exact HB.out | apply below_alloc | apply pw_below_drewN | apply below_drew1 | refine below_set ?_ GE133.out) | exact HB.out)))); have n1_ := Aside0.mk (blk_below (g := gb133) (o := .cells #[.slice A0_0 l0_0.length c0_0, .int .i64 a0_1, .int .i64 a0_2, .int .i64 a0_3, .int .i64 a0_4, .int .i32 a0_5, .int .i64 a0_6, .slice A0_7 l0_7.length c0_7] 26 (0, 0)) (by (with_reducible repeat (first | refine blk_drewN ?_ _ | refine blk_drew ?_ | refine blk_alloc ?_ _)); exact BK133.out) hb); have n2_ := Aside0.mk (below_step (by repeat (first | (with_reducible first | exact HB.out | apply below_alloc | apply pw_below_drewN | apply below_drew1 | refine below_set ?_ GE133.out) | exact HB.out)) hb); clear BK133; clear HB; have HO136 := n0_; have BK133 := n1_; have HB := n2_; clear n0_ n1_ n2_; (try clear hb); (try clear hb2); (try clear hk); (try clear hi); (try clear ho0); obtain ⟨Ao8, co8, eo8⟩ := Kd.R_slice HO136.out; subst eo8) | ((with_reducible refine gate_callee (f := 9) rfl ?_); refine goesL_ (some 15) rfl rfl Try.func9 (by kernel_rfl) rfl #[.slice Ao8 t134.length co8] rfl (by (try simp only [List.map_toArray, List.map_cons, List.map_nil]); first | done | rfl | (simp only [List.length_drop, List.length_take]; rfl)) ?_; (with_reducible refine (cruciblelaw06_own.calls _ _ t134 t137 _ ?side1 ?side2 A4.out).mono ?_); (case side1 => repeat (first | exact (Kd.R_reads' HO136.out).2.2 | (with_reducible refine Kd.C_alloc ?_ _) | (with_reducible refine Kd.C_drewN ?_ _) | (with_reducible refine Kd.C_drew ?_))); (case side2 => exact (Kd.R_reads' HO136.out).2.1); rintro e w9 ⟨v138, rfl, ho0, hb⟩; refine ⟨_, rfl, ?_⟩; have n0_ := Aside0.mk (Kd.R_elder' (by (with_reducible repeat (first | apply Kd.R_alloc | apply Kd.R_drewN | apply Kd.R_drew)); exact HO136.out) (Kd.R_base ho0) hb); have n1_ := Aside0.mk (Kd.R_lower (Kd.R_new' ho0 (Kd.R_lt (by (with_reducible repeat (first | apply Kd.R_alloc | apply Kd.R_drewN | apply Kd.R_drew)); exact HO136.out))) (below_size (by repeat (first | (with_reducible first | exact HB.out | apply below_alloc | apply pw_below_drewN | apply below_drew1 | refine below_set ?_ GE133.out) | exact HB.out)))); have n2_ := Aside0.mk (blk_below (g := gb133) (o := .cells #[.slice A0_0 l0_0.length c0_0, .int .i64 a0_1, .int .i64 a0_2, .int .i64 a0_3, .int .i64 a0_4, .int .i32 a0_5, .int .i64 a0_6, .slice A0_7 l0_7.length c0_7] 26 (0, 0)) (by (with_reducible repeat (first | refine blk_drewN ?_ _ | refine blk_drew ?_ | refine blk_alloc ?_ _)); exact BK133.out) hb); have n3_ := Aside0.mk (below_step (by repeat (first | (with_reducible first | exact HB.out | apply below_alloc | apply pw_below_drewN | apply below_drew1 | refine below_set ?_ GE133.out) | exact HB.out)) hb); clear HO136; clear BK133; clear HB; have HO136 := n0_; have HO139 := n1_; have BK133 := n2_; have HB := n3_; clear n0_ n1_ n2_ n3_; (try clear hb); (try clear hb2); (try clear hk); (try clear hi); (try clear ho0)))
  go_loopg [7] k (fun kq v7 w' => ∃ (x6_1 : List (S37)) (x7_1 : Int), v7 = .int .i64 x7_1 ∧ Aside0 (cruciblelaw06_AsmNames.l0 kq a1 t134 x6_1 x7_1 = some r) ∧ Aside0 (kq ≤ k) ∧ Aside0 (Kd.R k37 37 w' w.heap.size (fun k_ => some k_ ≠ (v138 : Value).ownBlock) (.slice Ao8 t134.length co8) t134) ∧ Aside0 (Kd.R k37 37 w' w.heap.size (fun k_ => some k_ ≠ ((.slice Ao8 t134.length co8) : Value).ownBlock) v138 x6_1) ∧ Aside0 (w'.heap[gb133]? = some (.cells #[(.slice A0_0 l0_0.length c0_0), .int .i64 a0_1, .int .i64 a0_2, .int .i64 a0_3, .int .i64 a0_4, .int .i32 a0_5, .int .i64 a0_6, (.slice A0_7 l0_7.length c0_7)] 26 (0, 0))) ∧ Aside0 (Below w.heap.size w w'))
  case atStart => exact ⟨(t137), (0), (by first | rfl | (simp; done) | (simp [*]; done)), H', ⟨Nat.le_refl _⟩, ⟨by (with_reducible repeat (first | apply Kd.R_alloc | apply Kd.R_drewN | apply Kd.R_drew)); exact Kd.R_mono HO136.out (fun _ hk => hk.2)⟩, ⟨by (with_reducible repeat (first | apply Kd.R_alloc | apply Kd.R_drewN | apply Kd.R_drew)); exact Kd.R_mono HO139.out (fun _ hk => hk.2)⟩, ⟨by (with_reducible repeat (first | refine blk_drewN ?_ _ | refine blk_drew ?_ | refine blk_alloc ?_ _)); exact BK133.out⟩, ⟨by repeat (first | (with_reducible first | exact HB.out | apply below_alloc | apply pw_below_drewN | apply below_drew1 | refine below_set ?_ GE133.out) | exact HB.out)⟩⟩
  case round =>
    clear H'
    try clear p2
    try clear c4
    try clear c7
    try clear c9
    try clear hcz6_0
    try clear hcz6_1
    try clear hcz6_2
    try clear hcz6_3
    try clear hcz6_4
    try clear hcz6_5
    try clear hcz6_6
    try clear hcz6_7
    try clear hfz6_0
    try clear hfz6_1
    try clear hfz6_2
    try clear hfz6_3
    try clear hfz6_4
    try clear hfz6_5
    try clear hfz6_6
    try clear hfz6_7
    obtain ⟨x6_1, x7_1, rfl, HA, HK1, HO_5, HO_6, BK133, HB⟩ := hrel
    cases gk with
    | zero => exact absurd HA.out (by simp [cruciblelaw06_AsmNames.l0])
    | succ k1 =>
      have H := HA.out
      clear HA
      simp only [cruciblelaw06_AsmNames.l0] at H
      by_cases c10 : x7_1 < (x6_1.length : Int)
      · rw [if_pos c10] at H
        have c10b0 : decide (x7_1 < (x6_1.length : Int)) = true := decide_eq_true c10
        clear c10
        have HC11 := Aside0.mk H
        clear H
        obtain ⟨Ao12, co12, eo12⟩ := Kd.R_slice HO_6.out
        subst eo12
        go_upto_region 6 with (fail)
        go_cut [35] (fun v35 wc => ∃ (kq : Nat) (x35_10 : Bool), v35 = .bool x35_10 ∧ Aside0 (cruciblelaw06_AsmNames.j1 kq a1 t134 x6_1 x7_1 x35_10 = some r) ∧ Aside0 (kq ≤ k1) ∧ Aside0 (Kd.R k37 37 wc w.heap.size (fun k_ => some k_ ≠ ((.slice Ao12 x6_1.length co12) : Value).ownBlock) (.slice Ao8 t134.length co8) t134) ∧ Aside0 (Kd.R k37 37 wc w.heap.size (fun k_ => some k_ ≠ ((.slice Ao8 t134.length co8) : Value).ownBlock) (.slice Ao12 x6_1.length co12) x6_1) ∧ Aside0 (wc.heap[gb133]? = some (.cells #[(.slice A0_0 l0_0.length c0_0), .int .i64 a0_1, .int .i64 a0_2, .int .i64 a0_3, .int .i64 a0_4, .int .i32 a0_5, .int .i64 a0_6, (.slice A0_7 l0_7.length c0_7)] 26 (0, 0))) ∧ Aside0 (Below w.heap.size w wc))
        case first =>
          have H := HC11.out
          clear HC11
          by_cases c13 : 0 ≤ x7_1
          · rw [if_pos c13] at H
            have c13b0 : decide (0 ≤ x7_1) = true := decide_eq_true c13
            clear c13
            (first | rw [c13b0] | (simp only [i64_w, i32_w]; rw [c13b0]) | skip)
            by_cases c14 : ((rd_T37 x6_1 x7_1).f0) > 1099511627776
            · rw [if_pos c14] at H
              have c14b0 : decide (1099511627776 < ((rd_T37 x6_1 x7_1).f0)) = true := decide_eq_true c14
              clear c14
              have H' := Aside0.mk H
              clear H
              have p140 : 0 ≤ (x7_1 : Int) := of_decide_eq_true (by first | (with_reducible assumption) | assumption)
              have q140 : x7_1 < (x6_1.length : Int) := of_decide_eq_true (by first | (with_reducible assumption) | assumption)
              obtain ⟨ad140, e140, hx140_0, hx140_1, hx140_2, hx140_3, hx140_4, hx140_5, hx140_6⟩ := at_T37 (Kd.R_reads' HO_6.out).2.2 x7_1 p140 q140
              cases e140
              replace p140 := eq_true p140
              replace q140 := eq_true q140
              go_wp2
              go_meet
              case rel => exact ⟨_, (true), (by first | rfl | (simp; done) | (simp [*]; done)), H', ⟨by have := HK1.out; first | omega | exact Nat.le_refl _⟩, ⟨by (with_reducible repeat (first | apply Kd.R_alloc | apply Kd.R_drewN | apply Kd.R_drew)); exact HO_5.out⟩, ⟨by (with_reducible repeat (first | apply Kd.R_alloc | apply Kd.R_drewN | apply Kd.R_drew)); exact HO_6.out⟩, ⟨by (with_reducible repeat (first | refine blk_drewN ?_ _ | refine blk_drew ?_ | refine blk_alloc ?_ _)); exact BK133.out⟩, ⟨by repeat (first | (with_reducible first | exact HB.out | apply below_alloc | apply pw_below_drewN | apply below_drew1 | refine below_set ?_ GE133.out) | exact HB.out)⟩⟩
            · rw [if_neg c14] at H
              have c14b0 : decide (1099511627776 < ((rd_T37 x6_1 x7_1).f0)) = false := decide_eq_false c14
              clear c14
              have H' := Aside0.mk H
              clear H
              have p140 : 0 ≤ (x7_1 : Int) := of_decide_eq_true (by first | (with_reducible assumption) | assumption)
              have q140 : x7_1 < (x6_1.length : Int) := of_decide_eq_true (by first | (with_reducible assumption) | assumption)
              obtain ⟨ad140, e140, hx140_0, hx140_1, hx140_2, hx140_3, hx140_4, hx140_5, hx140_6⟩ := at_T37 (Kd.R_reads' HO_6.out).2.2 x7_1 p140 q140
              cases e140
              replace p140 := eq_true p140
              replace q140 := eq_true q140
              have p141 : 0 ≤ (x7_1 : Int) := of_decide_eq_true (by first | (with_reducible assumption) | assumption)
              have q141 : x7_1 < (x6_1.length : Int) := of_decide_eq_true (by first | (with_reducible assumption) | assumption)
              obtain ⟨ad141, e141, hx141_0, hx141_1, hx141_2, hx141_3, hx141_4, hx141_5, hx141_6⟩ := at_T37 (Kd.R_reads' HO_6.out).2.2 x7_1 p141 q141
              obtain rfl : ad140 = ad141 := (by injection e141)
              replace p141 := eq_true p141
              replace q141 := eq_true q141
              go_wp2
              go_meet
              case rel => exact ⟨_, (decide (((rd_T37 x6_1 x7_1).f2) > 1099511627776)), (by first | rfl | (simp; done) | (simp [*]; done)), H', ⟨by have := HK1.out; first | omega | exact Nat.le_refl _⟩, ⟨by (with_reducible repeat (first | apply Kd.R_alloc | apply Kd.R_drewN | apply Kd.R_drew)); exact HO_5.out⟩, ⟨by (with_reducible repeat (first | apply Kd.R_alloc | apply Kd.R_drewN | apply Kd.R_drew)); exact HO_6.out⟩, ⟨by (with_reducible repeat (first | refine blk_drewN ?_ _ | refine blk_drew ?_ | refine blk_alloc ?_ _)); exact BK133.out⟩, ⟨by repeat (first | (with_reducible first | exact HB.out | apply below_alloc | apply pw_below_drewN | apply below_drew1 | refine below_set ?_ GE133.out) | exact HB.out)⟩⟩
          · rw [if_neg c13] at H
            exact absurd H (by simp)
        case rest =>
          clear HC11
          try clear c1
          try clear p1
          try clear q1
          try clear hx1
          try clear p2
          try clear c4
          try clear c7
          try clear c9
          try clear c10
          try clear c10b0
          try clear c13
          try clear c13b0
          try clear c14
          try clear c14b0
          try clear p14
          try clear q14
          try clear hx14
          try clear hcz6_0
          try clear hcz6_1
          try clear hcz6_2
          try clear hcz6_3
          try clear hcz6_4
          try clear hcz6_5
          try clear hcz6_6
          try clear hcz6_7
          try clear hfz6_0
          try clear hfz6_1
          try clear hfz6_2
          try clear hfz6_3
          try clear hfz6_4
          try clear hfz6_5
          try clear hfz6_6
          try clear hfz6_7
          try clear hx140_0
          try clear hx140_1
          try clear hx140_2
          try clear hx140_3
          try clear hx140_4
          try clear hx140_5
          try clear hx140_6
          try clear hx141_0
          try clear hx141_1
          try clear hx141_2
          try clear hx141_3
          try clear hx141_4
          try clear hx141_5
          try clear hx141_6
          try clear p140
          try clear p141
          try clear p2
          try clear q140
          try clear q141
          obtain ⟨kq, x35_10, rfl, HA, HJ10, HO_5, HO_6, BK133, HB⟩ := hcut
          cases kq with
          | zero => exact absurd HA.out (by simp [cruciblelaw06_AsmNames.j1])
          | succ kj10 =>
            have H := HA.out
            clear HA
            simp only [cruciblelaw06_AsmNames.j1] at H
            by_cases c15 : x35_10 = true
            · subst c15
              have H1 : ((cruciblelaw06_awake.f).bind fun t142 => (some t142)) = some r := by rw [if_pos rfl] at H; exact H
              clear H
              have H := H1
              clear H1
              replace H := Option.bind_eq_some_iff.mp H
              obtain ⟨t142, A160, H⟩ := H
              replace H : (some t142) = some r := H
              have A16 := Aside0.mk A160
              clear A160
              obtain rfl := Option.some.inj H
              go_wp2_with (first | ((with_reducible refine gate_callee (f := 13) rfl ?_); refine goesL_ (some 36) rfl rfl Try.func13 (by kernel_rfl) rfl #[] rfl (by (try simp only [List.map_toArray, List.map_cons, List.map_nil]); first | done | rfl | (simp only [List.length_drop, List.length_take]; rfl)) ?_; (with_reducible refine (cruciblelaw06_awake.calls  t142 _ A16.out).mono ?_); rintro e w17 ⟨rfl, hb⟩; refine ⟨_, rfl, ?_⟩; have n0_ := Aside0.mk (Kd.R_below (by (with_reducible repeat (first | apply Kd.R_alloc | apply Kd.R_drewN | apply Kd.R_drew)); exact HO_5.out) hb); have n1_ := Aside0.mk (Kd.R_below (by (with_reducible repeat (first | apply Kd.R_alloc | apply Kd.R_drewN | apply Kd.R_drew)); exact HO_6.out) hb); have n2_ := Aside0.mk (blk_below (g := gb133) (o := .cells #[.slice A0_0 l0_0.length c0_0, .int .i64 a0_1, .int .i64 a0_2, .int .i64 a0_3, .int .i64 a0_4, .int .i32 a0_5, .int .i64 a0_6, .slice A0_7 l0_7.length c0_7] 26 (0, 0)) (by (with_reducible repeat (first | refine blk_drewN ?_ _ | refine blk_drew ?_ | refine blk_alloc ?_ _)); exact BK133.out) hb); have n3_ := Aside0.mk (below_step (by repeat (first | (with_reducible first | exact HB.out | apply below_alloc | apply pw_below_drewN | apply below_drew1 | refine below_set ?_ GE133.out) | exact HB.out)) hb); clear HO_5; clear HO_6; clear BK133; clear HB; have HO_5 := n0_; have HO_6 := n1_; have BK133 := n2_; have HB := n3_; clear n0_ n1_ n2_ n3_; (try clear hb); (try clear hb2); (try clear hk); (try clear hi)))
              go_ret
              exact ⟨by first | rfl | (simp [errW_none, errW_some] <;> rfl) | (simp [*, errW_none, errW_some] <;> rfl), by repeat (first | (with_reducible first | exact HB.out | apply below_alloc | apply pw_below_drewN | apply below_drew1 | refine below_set ?_ GE133.out) | exact HB.out)⟩
            · replace c15 := Bool.eq_false_iff.mpr c15
              subst c15
              have H1 : (if 0 ≤ x7_1 then (if x7_1 < (x6_1.length : Int) then (if ((rd_T37 x6_1 x7_1).f0) > 0 then ((some (x6_1.set (x7_1 : Int).toNat (⟨wrap64 ((wrap64 (((rd_T37 x6_1 x7_1).f0) * 3)) + (wrap64 (a1))), (⟨(rd_T37 x6_1 x7_1).f1.f0, (rd_T37 x6_1 x7_1).f1.f1, (rd_T37 x6_1 x7_1).f1.f2, (rd_T37 x6_1 x7_1).f1.f3, (rd_T37 x6_1 x7_1).f1.f4⟩ : S24), (rd_T37 x6_1 x7_1).f2⟩ : S37) : List (S37))).bind fun y145 => (if ((rd_T37 y145 x7_1).f2) > 0 then (cruciblelaw06_AsmNames.l0 kj10 a1 t134 (y145.set (x7_1 : Int).toNat (⟨(rd_T37 y145 x7_1).f0, (⟨(rd_T37 y145 x7_1).f1.f0, (rd_T37 y145 x7_1).f1.f1, (rd_T37 y145 x7_1).f1.f2, (rd_T37 y145 x7_1).f1.f3, (rd_T37 y145 x7_1).f1.f4⟩ : S24), wrap64 ((wrap64 (((rd_T37 y145 x7_1).f2) * 3)) + (wrap64 (a1)))⟩ : S37)) (wrap64 (x7_1 + 1))) else (cruciblelaw06_AsmNames.l0 kj10 a1 t134 y145 (wrap64 (x7_1 + 1))))) else (if ((rd_T37 x6_1 x7_1).f2) > 0 then (cruciblelaw06_AsmNames.l0 kj10 a1 t134 (x6_1.set (x7_1 : Int).toNat (⟨(rd_T37 x6_1 x7_1).f0, (⟨(rd_T37 x6_1 x7_1).f1.f0, (rd_T37 x6_1 x7_1).f1.f1, (rd_T37 x6_1 x7_1).f1.f2, (rd_T37 x6_1 x7_1).f1.f3, (rd_T37 x6_1 x7_1).f1.f4⟩ : S24), wrap64 ((wrap64 (((rd_T37 x6_1 x7_1).f2) * 3)) + (wrap64 (a1)))⟩ : S37)) (wrap64 (x7_1 + 1))) else (cruciblelaw06_AsmNames.l0 kj10 a1 t134 x6_1 (wrap64 (x7_1 + 1))))) else (none)) else (none)) = some r := by rw [if_neg (show ¬ (false = true) by decide)] at H; exact H
              clear H
              have H := H1
              clear H1
              by_cases c18 : 0 ≤ x7_1
              · rw [if_pos c18] at H
                have c18b0 : decide (0 ≤ x7_1) = true := decide_eq_true c18
                clear c18
                by_cases c19 : x7_1 < (x6_1.length : Int)
                · rw [if_pos c19] at H
                  have c19b0 : decide (x7_1 < (x6_1.length : Int)) = true := decide_eq_true c19
                  clear c19
                  by_cases c20 : ((rd_T37 x6_1 x7_1).f0) > 0
                  · rw [if_pos c20] at H
                    have c20b0 : decide (0 < ((rd_T37 x6_1 x7_1).f0)) = true := decide_eq_true c20
                    clear c20
                    obtain ⟨y145, hy145⟩ : ∃ y_ : List (S37), y_ = (x6_1.set (x7_1 : Int).toNat (⟨wrap64 ((wrap64 (((rd_T37 x6_1 x7_1).f0) * 3)) + (wrap64 (a1))), (⟨(rd_T37 x6_1 x7_1).f1.f0, (rd_T37 x6_1 x7_1).f1.f1, (rd_T37 x6_1 x7_1).f1.f2, (rd_T37 x6_1 x7_1).f1.f3, (rd_T37 x6_1 x7_1).f1.f4⟩ : S24), (rd_T37 x6_1 x7_1).f2⟩ : S37)) := ⟨_, rfl⟩
                    replace H : (if ((rd_T37 y145 x7_1).f2) > 0 then (cruciblelaw06_AsmNames.l0 kj10 a1 t134 (y145.set (x7_1 : Int).toNat (⟨(rd_T37 y145 x7_1).f0, (⟨(rd_T37 y145 x7_1).f1.f0, (rd_T37 y145 x7_1).f1.f1, (rd_T37 y145 x7_1).f1.f2, (rd_T37 y145 x7_1).f1.f3, (rd_T37 y145 x7_1).f1.f4⟩ : S24), wrap64 ((wrap64 (((rd_T37 y145 x7_1).f2) * 3)) + (wrap64 (a1)))⟩ : S37)) (wrap64 (x7_1 + 1))) else (cruciblelaw06_AsmNames.l0 kj10 a1 t134 y145 (wrap64 (x7_1 + 1)))) = some r := by first | (rw [hy145]; with_reducible exact H) | (have H2_ := (Option.bind_some _ _).symm.trans H; rw [hy145]; with_reducible exact H2_) | (have H2_ := (Option.bind_some _ _).symm.trans H; with_reducible exact H2_) | with_reducible exact H | (rw [hy145]; exact H) | exact H
                    have Ny145 := Aside0.mk hy145
                    clear hy145
                    by_cases c22 : ((rd_T37 y145 x7_1).f2) > 0
                    · rw [if_pos c22] at H
                      have c22b0 : decide (0 < ((rd_T37 y145 x7_1).f2)) = true := decide_eq_true c22
                      clear c22
                      obtain ⟨y148, hy148⟩ : ∃ y_ : List (S37), y_ = (y145.set (x7_1 : Int).toNat (⟨(rd_T37 y145 x7_1).f0, (⟨(rd_T37 y145 x7_1).f1.f0, (rd_T37 y145 x7_1).f1.f1, (rd_T37 y145 x7_1).f1.f2, (rd_T37 y145 x7_1).f1.f3, (rd_T37 y145 x7_1).f1.f4⟩ : S24), wrap64 ((wrap64 (((rd_T37 y145 x7_1).f2) * 3)) + (wrap64 (a1)))⟩ : S37)) := ⟨_, rfl⟩
                      replace H : (cruciblelaw06_AsmNames.l0 kj10 a1 t134 y148 (wrap64 (x7_1 + 1))) = some r := by first | (rw [hy148]; with_reducible exact H) | (have H2_ := (Option.bind_some _ _).symm.trans H; rw [hy148]; with_reducible exact H2_) | (have H2_ := (Option.bind_some _ _).symm.trans H; with_reducible exact H2_) | with_reducible exact H | (rw [hy148]; exact H) | exact H
                      have Ny148 := Aside0.mk hy148
                      clear hy148
                      have H' := Aside0.mk H
                      clear H
                      have p143 : 0 ≤ (x7_1 : Int) := of_decide_eq_true (by first | (with_reducible assumption) | assumption)
                      have q143 : x7_1 < (x6_1.length : Int) := of_decide_eq_true (by first | (with_reducible assumption) | assumption)
                      obtain ⟨ad143, e143, hx143_0, hx143_1, hx143_2, hx143_3, hx143_4, hx143_5, hx143_6⟩ := at_T37 (Kd.R_reads' HO_6.out).2.2 x7_1 p143 q143
                      cases e143
                      replace p143 := eq_true p143
                      replace q143 := eq_true q143
                      have p144 : 0 ≤ (x7_1 : Int) := of_decide_eq_true (by first | (with_reducible assumption) | assumption)
                      have q144 : x7_1 < (x6_1.length : Int) := of_decide_eq_true (by first | (with_reducible assumption) | assumption)
                      obtain ⟨ad144, e144, hx144_0, hx144_1, hx144_2, hx144_3, hx144_4, hx144_5, hx144_6⟩ := at_T37 (Kd.R_reads' HO_6.out).2.2 x7_1 p144 q144
                      obtain rfl : ad143 = ad144 := (by injection e144)
                      replace p144 := eq_true p144
                      replace q144 := eq_true q144
                      have p21 : 0 ≤ (x7_1 : Int) := of_decide_eq_true (by first | (with_reducible assumption) | assumption)
                      have q21 : (x7_1 : Int) < ((x6_1.length : Int) : Int) := of_decide_eq_true (by first | (with_reducible assumption) | assumption)
                      obtain ⟨go21, co21, eo21, gb21, gl21, cl21, HG21⟩ := Kd.R_form HO_6.out (by omega)
                      (first | cases eo21 | (injection eo21 with ea_ en_ ec_; (first | subst ea_ | (injection ea_ with ea_; subst ea_)); subst ec_; clear en_))
                      have GB21 := Aside0.mk gb21
                      have GG21 := Aside0.mk HG21
                      clear gb21 gl21 HG21
                      (first | simp only [add_plain] at hx143_0 | skip)
                      (first | simp only [add_plain] at hx143_1 | skip)
                      (first | simp only [add_plain] at hx143_2 | skip)
                      (first | simp only [add_plain] at hx143_3 | skip)
                      (first | simp only [add_plain] at hx143_4 | skip)
                      (first | simp only [add_plain] at hx143_5 | skip)
                      (first | simp only [add_plain] at hx143_6 | skip)
                      (first | simp only [add_plain] at hx144_0 | skip)
                      (first | simp only [add_plain] at hx144_1 | skip)
                      (first | simp only [add_plain] at hx144_2 | skip)
                      (first | simp only [add_plain] at hx144_3 | skip)
                      (first | simp only [add_plain] at hx144_4 | skip)
                      (first | simp only [add_plain] at hx144_5 | skip)
                      (first | simp only [add_plain] at hx144_6 | skip)
                      obtain ⟨ce21, hcl21, hM21, hcc21, hfr21⟩ := Kd.R_elem HO_6.out z37 (x7_1 : Int) p21 q21
                      obtain rfl := k37_openM hM21
                      have hx21_0 : wc.cell? ⟨go21, (x7_1 : Int).toNat * 7, none⟩ = some (.int .i64 ((rd_T37 x6_1 x7_1).f0)) := hcc21 0 _ rfl
                      have hx21_1 : wc.cell? ⟨go21, (x7_1 : Int).toNat * 7 + 1, none⟩ = some (.int .i64 ((rd_T37 x6_1 x7_1).f1.f0)) := hcc21 1 _ rfl
                      have hx21_2 : wc.cell? ⟨go21, (x7_1 : Int).toNat * 7 + 2, none⟩ = some (.int .i64 ((rd_T37 x6_1 x7_1).f1.f1)) := hcc21 2 _ rfl
                      have hx21_3 : wc.cell? ⟨go21, (x7_1 : Int).toNat * 7 + 3, none⟩ = some (.int .i64 ((rd_T37 x6_1 x7_1).f1.f2)) := hcc21 3 _ rfl
                      have hx21_4 : wc.cell? ⟨go21, (x7_1 : Int).toNat * 7 + 4, none⟩ = some (.int .i64 ((rd_T37 x6_1 x7_1).f1.f3)) := hcc21 4 _ rfl
                      have hx21_5 : wc.cell? ⟨go21, (x7_1 : Int).toNat * 7 + 5, none⟩ = some (.int .i32 ((rd_T37 x6_1 x7_1).f1.f4)) := hcc21 5 _ rfl
                      have hx21_6 : wc.cell? ⟨go21, (x7_1 : Int).toNat * 7 + 6, none⟩ = some (.int .i64 ((rd_T37 x6_1 x7_1).f2)) := hcc21 6 _ rfl
                      have hf21_0 : wc.frozen? ⟨go21, (x7_1 : Int).toNat * 7, none⟩ = false := hfr21 0
                      have hf21_1 : wc.frozen? ⟨go21, (x7_1 : Int).toNat * 7 + 1, none⟩ = false := hfr21 1
                      have hf21_2 : wc.frozen? ⟨go21, (x7_1 : Int).toNat * 7 + 2, none⟩ = false := hfr21 2
                      have hf21_3 : wc.frozen? ⟨go21, (x7_1 : Int).toNat * 7 + 3, none⟩ = false := hfr21 3
                      have hf21_4 : wc.frozen? ⟨go21, (x7_1 : Int).toNat * 7 + 4, none⟩ = false := hfr21 4
                      have hf21_5 : wc.frozen? ⟨go21, (x7_1 : Int).toNat * 7 + 5, none⟩ = false := hfr21 5
                      have hf21_6 : wc.frozen? ⟨go21, (x7_1 : Int).toNat * 7 + 6, none⟩ = false := hfr21 6
                      clear hcl21 hcc21 hfr21 hM21
                      replace p21 := eq_true p21
                      replace q21 := eq_true q21
                      have HX24 := Aside0.mk (show Kd.R k37 37 wc w.heap.size (fun k_ => some k_ ≠ (.slice Ao8 t134.length co8 : Value).ownBlock) (.slice (some ⟨go21, 0, none⟩) x6_1.length co12) x6_1 from (by (with_reducible repeat (first | apply Kd.R_alloc | apply Kd.R_drewN | apply Kd.R_drew)); exact HO_6.out))
                      obtain ⟨ce24, hcl24, hM24, hcc24, hfr24⟩ := Kd.R_elem HX24.out z37 (x7_1 : Int) (of_decide_eq_true (by first | (with_reducible assumption) | assumption)) (by have h_ : (x7_1 : Int) < ((x6_1.length : Int) : Int) := of_decide_eq_true (by first | (with_reducible assumption) | assumption); first | exact h_ | (have e_ := (Kd.R_reads' HO_6.out).1; omega) | simpa using h_)
                      obtain rfl := k37_openM hM24
                      have HP24 := Kd.R_seg HX24.out (x7_1 : Int) (of_decide_eq_true (by first | (with_reducible assumption) | assumption)) (by have h_ : (x7_1 : Int) < ((x6_1.length : Int) : Int) := of_decide_eq_true (by first | (with_reducible assumption) | assumption); first | exact h_ | (have e_ := (Kd.R_reads' HO_6.out).1; omega) | simpa using h_) (seg := [.int .i64 (wrap64 ((wrap64 (((rd_T37 x6_1 x7_1).f0) * 3)) + (wrap64 (a1))))]) (j := 0) hcl24 hcc24 (show 1 ≤ 7 from by decide) (x' := (⟨wrap64 ((wrap64 (((rd_T37 x6_1 x7_1).f0) * 3)) + (wrap64 (a1))), (⟨(rd_T37 x6_1 x7_1).f1.f0, (rd_T37 x6_1 x7_1).f1.f1, (rd_T37 x6_1 x7_1).f1.f2, (rd_T37 x6_1 x7_1).f1.f3, (rd_T37 x6_1 x7_1).f1.f4⟩ : S24), (rd_T37 x6_1 x7_1).f2⟩ : S37)) (k37_mkM _ _ _ (⟨wrap64 ((wrap64 (((rd_T37 x6_1 x7_1).f0) * 3)) + (wrap64 (a1))), (⟨(rd_T37 x6_1 x7_1).f1.f0, (rd_T37 x6_1 x7_1).f1.f1, (rd_T37 x6_1 x7_1).f1.f2, (rd_T37 x6_1 x7_1).f1.f3, (rd_T37 x6_1 x7_1).f1.f4⟩ : S24), (rd_T37 x6_1 x7_1).f2⟩ : S37) ) (fun _ hk => hk)
                      have hx24_0 := hcc24 0 _ rfl
                      (try simp only [show (k37).sz = 7 from rfl, Nat.mul_one, Nat.add_zero] at hx24_0)
                      have hf24_0 := hfr24 0
                      (try simp only [show (k37).sz = 7 from rfl, Nat.mul_one, Nat.add_zero] at hf24_0)
                      clear hcl24 hcc24 hfr24 hM24
                      go_wp2_with (first | ((with_reducible refine gate_store (t := 3) (p := 55) rfl ?_); refine store_event (t := 3) (p := 55) (v := ?vo_w25) (w1 := (wc.setCell ⟨go21, (x7_1 : Int).toNat * 7, none⟩ (.int .i64 (wrap64 ((wrap64 (((rd_T37 x6_1 x7_1).f0) * 3)) + (wrap64 (a1))))))) ?hg ?ho ?hn ?hr ?_; (case ho => rfl); (case hg => rfl); (case hn => rfl); (case hr => first | (go_simp; done) | (go_simp; rfl)); intro w25 hw; have hg : wc.grownBy w25 (some go21) := (by rw [hw]; exact HP24.2); have hp_ : Kd.R k37 37 w25 w.heap.size (fun k_ => some k_ ≠ (.slice Ao8 t134.length co8 : Value).ownBlock) (.slice (some ⟨go21, 0, none⟩) x6_1.length co12) y145 := (by rw [hw, Ny145.out]; exact HP24.1); clear HP24; have n0_ := Aside0.mk (Kd.R_after (v := (.slice (some ⟨go21, 0, none⟩) x6_1.length co12)) (v1 := (.slice (some ⟨go21, 0, none⟩) x6_1.length co12)) (ok := (fun _ => True)) (by (with_reducible repeat (first | apply Kd.R_alloc | apply Kd.R_drewN | apply Kd.R_drew)); exact Kd.R_mono HO_5.out (fun _ hk => ⟨trivial, hk⟩)) hg (.inl rfl)); have n1_ := Aside0.mk (hp_); have n2_ := Aside0.mk (blk_grown (g := gb133) (o := .cells #[.slice A0_0 l0_0.length c0_0, .int .i64 a0_1, .int .i64 a0_2, .int .i64 a0_3, .int .i64 a0_4, .int .i32 a0_5, .int .i64 a0_6, .slice A0_7 l0_7.length c0_7] 26 (0, 0)) (by (with_reducible repeat (first | refine blk_drewN ?_ _ | refine blk_drew ?_ | refine blk_alloc ?_ _)); exact BK133.out) hg (Kd.R_ne HO_6.out BK133.out (by decide))); have n3_ := Aside0.mk ((by rw [hw]; exact below_set (HB.out) GB21.out : Below w.heap.size w w25)); clear HO_5; clear HO_6; clear BK133; clear HB; have HO_5 := n0_; have HO_6 := n1_; have BK133 := n2_; have HB := n3_; clear n0_ n1_ n2_ n3_; clear hg hw hp_; have p146 : 0 ≤ (x7_1 : Int) := of_decide_eq_true (by first | (with_reducible assumption) | assumption); have q146 : x7_1 < (y145.length : Int) := (by have h_ : (x7_1 : Int) < ((x6_1.length : Int) : Int) := of_decide_eq_true (by first | (with_reducible assumption) | assumption); first | (have e_ := (Kd.R_reads' HO_6.out).1; omega) | simpa only [Ny145.out, List.length_set] using h_); have ql146 : ((x7_1 : Int) < ((x6_1.length : Int) : Int)) = True := eq_true (of_decide_eq_true (by first | (with_reducible assumption) | assumption)); obtain ⟨ad146, e146, hx146_0, hx146_1, hx146_2, hx146_3, hx146_4, hx146_5, hx146_6⟩ := at_T37 (Kd.R_reads' HO_6.out).2.2 x7_1 p146 q146; obtain rfl : (⟨go21, 0, none⟩ : Addr) = ad146 := (by injection e146); (first | simp only [add_plain] at hx146_0 | simp only [add_at] at hx146_0 | simp only [Addr.add, Nat.zero_add] at hx146_0 | skip); (first | simp only [add_plain] at hx146_1 | simp only [add_at] at hx146_1 | simp only [Addr.add, Nat.zero_add] at hx146_1 | skip); (first | simp only [add_plain] at hx146_2 | simp only [add_at] at hx146_2 | simp only [Addr.add, Nat.zero_add] at hx146_2 | skip); (first | simp only [add_plain] at hx146_3 | simp only [add_at] at hx146_3 | simp only [Addr.add, Nat.zero_add] at hx146_3 | skip); (first | simp only [add_plain] at hx146_4 | simp only [add_at] at hx146_4 | simp only [Addr.add, Nat.zero_add] at hx146_4 | skip); (first | simp only [add_plain] at hx146_5 | simp only [add_at] at hx146_5 | simp only [Addr.add, Nat.zero_add] at hx146_5 | skip); (first | simp only [add_plain] at hx146_6 | simp only [add_at] at hx146_6 | simp only [Addr.add, Nat.zero_add] at hx146_6 | skip); replace p146 := eq_true p146; replace q146 := eq_true q146; have p147 : 0 ≤ (x7_1 : Int) := of_decide_eq_true (by first | (with_reducible assumption) | assumption); have q147 : x7_1 < (y145.length : Int) := (by have h_ : (x7_1 : Int) < ((x6_1.length : Int) : Int) := of_decide_eq_true (by first | (with_reducible assumption) | assumption); first | (have e_ := (Kd.R_reads' HO_6.out).1; omega) | simpa only [Ny145.out, List.length_set] using h_); have ql147 : ((x7_1 : Int) < ((x6_1.length : Int) : Int)) = True := eq_true (of_decide_eq_true (by first | (with_reducible assumption) | assumption)); obtain ⟨ad147, e147, hx147_0, hx147_1, hx147_2, hx147_3, hx147_4, hx147_5, hx147_6⟩ := at_T37 (Kd.R_reads' HO_6.out).2.2 x7_1 p147 q147; obtain rfl : (⟨go21, 0, none⟩ : Addr) = ad147 := (by injection e147); (first | simp only [add_plain] at hx147_0 | simp only [add_at] at hx147_0 | simp only [Addr.add, Nat.zero_add] at hx147_0 | skip); (first | simp only [add_plain] at hx147_1 | simp only [add_at] at hx147_1 | simp only [Addr.add, Nat.zero_add] at hx147_1 | skip); (first | simp only [add_plain] at hx147_2 | simp only [add_at] at hx147_2 | simp only [Addr.add, Nat.zero_add] at hx147_2 | skip); (first | simp only [add_plain] at hx147_3 | simp only [add_at] at hx147_3 | simp only [Addr.add, Nat.zero_add] at hx147_3 | skip); (first | simp only [add_plain] at hx147_4 | simp only [add_at] at hx147_4 | simp only [Addr.add, Nat.zero_add] at hx147_4 | skip); (first | simp only [add_plain] at hx147_5 | simp only [add_at] at hx147_5 | simp only [Addr.add, Nat.zero_add] at hx147_5 | skip); (first | simp only [add_plain] at hx147_6 | simp only [add_at] at hx147_6 | simp only [Addr.add, Nat.zero_add] at hx147_6 | skip); replace p147 := eq_true p147; replace q147 := eq_true q147; have p23 : 0 ≤ (x7_1 : Int) := of_decide_eq_true (by first | (with_reducible assumption) | assumption); have q23 : (x7_1 : Int) < ((x6_1.length : Int) : Int) := of_decide_eq_true (by first | (with_reducible assumption) | assumption); obtain ⟨ce23, hcl23, hM23, hcc23, hfr23⟩ := Kd.R_elem HO_6.out z37 (x7_1 : Int) p23 q23; obtain rfl := k37_openM hM23; have hx23_0 : w25.cell? ⟨go21, (x7_1 : Int).toNat * 7, none⟩ = some (.int .i64 ((rd_T37 y145 x7_1).f0)) := hcc23 0 _ rfl; have hx23_1 : w25.cell? ⟨go21, (x7_1 : Int).toNat * 7 + 1, none⟩ = some (.int .i64 ((rd_T37 y145 x7_1).f1.f0)) := hcc23 1 _ rfl; have hx23_2 : w25.cell? ⟨go21, (x7_1 : Int).toNat * 7 + 2, none⟩ = some (.int .i64 ((rd_T37 y145 x7_1).f1.f1)) := hcc23 2 _ rfl; have hx23_3 : w25.cell? ⟨go21, (x7_1 : Int).toNat * 7 + 3, none⟩ = some (.int .i64 ((rd_T37 y145 x7_1).f1.f2)) := hcc23 3 _ rfl; have hx23_4 : w25.cell? ⟨go21, (x7_1 : Int).toNat * 7 + 4, none⟩ = some (.int .i64 ((rd_T37 y145 x7_1).f1.f3)) := hcc23 4 _ rfl; have hx23_5 : w25.cell? ⟨go21, (x7_1 : Int).toNat * 7 + 5, none⟩ = some (.int .i32 ((rd_T37 y145 x7_1).f1.f4)) := hcc23 5 _ rfl; have hx23_6 : w25.cell? ⟨go21, (x7_1 : Int).toNat * 7 + 6, none⟩ = some (.int .i64 ((rd_T37 y145 x7_1).f2)) := hcc23 6 _ rfl; have hf23_0 : w25.frozen? ⟨go21, (x7_1 : Int).toNat * 7, none⟩ = false := hfr23 0; have hf23_1 : w25.frozen? ⟨go21, (x7_1 : Int).toNat * 7 + 1, none⟩ = false := hfr23 1; have hf23_2 : w25.frozen? ⟨go21, (x7_1 : Int).toNat * 7 + 2, none⟩ = false := hfr23 2; have hf23_3 : w25.frozen? ⟨go21, (x7_1 : Int).toNat * 7 + 3, none⟩ = false := hfr23 3; have hf23_4 : w25.frozen? ⟨go21, (x7_1 : Int).toNat * 7 + 4, none⟩ = false := hfr23 4; have hf23_5 : w25.frozen? ⟨go21, (x7_1 : Int).toNat * 7 + 5, none⟩ = false := hfr23 5; have hf23_6 : w25.frozen? ⟨go21, (x7_1 : Int).toNat * 7 + 6, none⟩ = false := hfr23 6; clear hcl23 hcc23 hfr23 hM23; replace p23 := eq_true p23; replace q23 := eq_true q23; have HX26 := Aside0.mk (show Kd.R k37 37 w25 w.heap.size (fun k_ => some k_ ≠ (.slice Ao8 t134.length co8 : Value).ownBlock) (.slice (some ⟨go21, 0, none⟩) x6_1.length co12) y145 from (by (with_reducible repeat (first | apply Kd.R_alloc | apply Kd.R_drewN | apply Kd.R_drew)); exact HO_6.out)); obtain ⟨ce26, hcl26, hM26, hcc26, hfr26⟩ := Kd.R_elem HX26.out z37 (x7_1 : Int) (of_decide_eq_true (by first | (with_reducible assumption) | assumption)) (by have h_ : (x7_1 : Int) < ((x6_1.length : Int) : Int) := of_decide_eq_true (by first | (with_reducible assumption) | assumption); first | exact h_ | (have e_ := (Kd.R_reads' HO_6.out).1; omega) | simpa using h_); obtain rfl := k37_openM hM26; have HP26 := Kd.R_seg HX26.out (x7_1 : Int) (of_decide_eq_true (by first | (with_reducible assumption) | assumption)) (by have h_ : (x7_1 : Int) < ((x6_1.length : Int) : Int) := of_decide_eq_true (by first | (with_reducible assumption) | assumption); first | exact h_ | (have e_ := (Kd.R_reads' HO_6.out).1; omega) | simpa using h_) (seg := [.int .i64 (wrap64 ((wrap64 (((rd_T37 y145 x7_1).f2) * 3)) + (wrap64 (a1))))]) (j := 6) hcl26 hcc26 (show 7 ≤ 7 from by decide) (x' := (⟨(rd_T37 y145 x7_1).f0, (⟨(rd_T37 y145 x7_1).f1.f0, (rd_T37 y145 x7_1).f1.f1, (rd_T37 y145 x7_1).f1.f2, (rd_T37 y145 x7_1).f1.f3, (rd_T37 y145 x7_1).f1.f4⟩ : S24), wrap64 ((wrap64 (((rd_T37 y145 x7_1).f2) * 3)) + (wrap64 (a1)))⟩ : S37)) (k37_mkM _ _ _ (⟨(rd_T37 y145 x7_1).f0, (⟨(rd_T37 y145 x7_1).f1.f0, (rd_T37 y145 x7_1).f1.f1, (rd_T37 y145 x7_1).f1.f2, (rd_T37 y145 x7_1).f1.f3, (rd_T37 y145 x7_1).f1.f4⟩ : S24), wrap64 ((wrap64 (((rd_T37 y145 x7_1).f2) * 3)) + (wrap64 (a1)))⟩ : S37) ) (fun _ hk => hk); have hx26_6 := hcc26 6 _ rfl; (try simp only [show (k37).sz = 7 from rfl, Nat.mul_one, Nat.add_zero] at hx26_6); have hf26_6 := hfr26 6; (try simp only [show (k37).sz = 7 from rfl, Nat.mul_one, Nat.add_zero] at hf26_6); clear hcl26 hcc26 hfr26 hM26) | ((with_reducible refine gate_store (t := 3) (p := 74) rfl ?_); refine store_event (t := 3) (p := 74) (v := ?vo_w27) (w1 := (w25.setCell ⟨go21, (x7_1 : Int).toNat * 7 + 6, none⟩ (.int .i64 (wrap64 ((wrap64 (((rd_T37 y145 x7_1).f2) * 3)) + (wrap64 (a1))))))) ?hg ?ho ?hn ?hr ?_; (case ho => rfl); (case hg => rfl); (case hn => rfl); (case hr => first | (go_simp; done) | (go_simp; rfl)); intro w27 hw; have hg : w25.grownBy w27 (some go21) := (by rw [hw]; exact HP26.2); have hp_ : Kd.R k37 37 w27 w.heap.size (fun k_ => some k_ ≠ (.slice Ao8 t134.length co8 : Value).ownBlock) (.slice (some ⟨go21, 0, none⟩) x6_1.length co12) y148 := (by rw [hw, Ny148.out]; exact HP26.1); clear HP26; have n0_ := Aside0.mk (Kd.R_after (v := (.slice (some ⟨go21, 0, none⟩) x6_1.length co12)) (v1 := (.slice (some ⟨go21, 0, none⟩) x6_1.length co12)) (ok := (fun _ => True)) (by (with_reducible repeat (first | apply Kd.R_alloc | apply Kd.R_drewN | apply Kd.R_drew)); exact HO_5.out) hg (.inl rfl)); have n1_ := Aside0.mk (hp_); have n2_ := Aside0.mk (blk_grown (g := gb133) (o := .cells #[.slice A0_0 l0_0.length c0_0, .int .i64 a0_1, .int .i64 a0_2, .int .i64 a0_3, .int .i64 a0_4, .int .i32 a0_5, .int .i64 a0_6, .slice A0_7 l0_7.length c0_7] 26 (0, 0)) (by (with_reducible repeat (first | refine blk_drewN ?_ _ | refine blk_drew ?_ | refine blk_alloc ?_ _)); exact BK133.out) hg (Kd.R_ne HO_6.out BK133.out (by decide))); have n3_ := Aside0.mk ((by rw [hw]; exact below_set (HB.out) GB21.out : Below w.heap.size w w27)); clear HO_5; clear HO_6; clear BK133; clear HB; have HO_5 := n0_; have HO_6 := n1_; have BK133 := n2_; have HB := n3_; clear n0_ n1_ n2_ n3_; clear hg hw hp_))
                      go_roundg kj10
                      case measure => have := HK1.out; have := HJ10.out; omega
                      case rel => exact ⟨(y148), (wrap64 (x7_1 + 1)), (by first | rfl | (simp; done) | (simp [*]; done)), H', ⟨by have := HK1.out; have := HJ10.out; omega⟩, ⟨by (with_reducible repeat (first | apply Kd.R_alloc | apply Kd.R_drewN | apply Kd.R_drew)); exact Kd.R_mono HO_5.out (fun _ hk => hk.2)⟩, ⟨by (with_reducible repeat (first | apply Kd.R_alloc | apply Kd.R_drewN | apply Kd.R_drew)); exact HO_6.out⟩, ⟨by (with_reducible repeat (first | refine blk_drewN ?_ _ | refine blk_drew ?_ | refine blk_alloc ?_ _)); exact BK133.out⟩, ⟨by repeat (first | (with_reducible first | exact HB.out | apply below_alloc | apply pw_below_drewN | apply below_drew1 | refine below_set ?_ GE133.out) | exact HB.out)⟩⟩
                    · rw [if_neg c22] at H
                      have c22b0 : decide (0 < ((rd_T37 y145 x7_1).f2)) = false := decide_eq_false c22
                      clear c22
                      have H' := Aside0.mk H
                      clear H
                      have p143 : 0 ≤ (x7_1 : Int) := of_decide_eq_true (by first | (with_reducible assumption) | assumption)
                      have q143 : x7_1 < (x6_1.length : Int) := of_decide_eq_true (by first | (with_reducible assumption) | assumption)
                      obtain ⟨ad143, e143, hx143_0, hx143_1, hx143_2, hx143_3, hx143_4, hx143_5, hx143_6⟩ := at_T37 (Kd.R_reads' HO_6.out).2.2 x7_1 p143 q143
                      cases e143
                      replace p143 := eq_true p143
                      replace q143 := eq_true q143
                      have p144 : 0 ≤ (x7_1 : Int) := of_decide_eq_true (by first | (with_reducible assumption) | assumption)
                      have q144 : x7_1 < (x6_1.length : Int) := of_decide_eq_true (by first | (with_reducible assumption) | assumption)
                      obtain ⟨ad144, e144, hx144_0, hx144_1, hx144_2, hx144_3, hx144_4, hx144_5, hx144_6⟩ := at_T37 (Kd.R_reads' HO_6.out).2.2 x7_1 p144 q144
                      obtain rfl : ad143 = ad144 := (by injection e144)
                      replace p144 := eq_true p144
                      replace q144 := eq_true q144
                      have p21 : 0 ≤ (x7_1 : Int) := of_decide_eq_true (by first | (with_reducible assumption) | assumption)
                      have q21 : (x7_1 : Int) < ((x6_1.length : Int) : Int) := of_decide_eq_true (by first | (with_reducible assumption) | assumption)
                      obtain ⟨go21, co21, eo21, gb21, gl21, cl21, HG21⟩ := Kd.R_form HO_6.out (by omega)
                      (first | cases eo21 | (injection eo21 with ea_ en_ ec_; (first | subst ea_ | (injection ea_ with ea_; subst ea_)); subst ec_; clear en_))
                      have GB21 := Aside0.mk gb21
                      have GG21 := Aside0.mk HG21
                      clear gb21 gl21 HG21
                      (first | simp only [add_plain] at hx143_0 | skip)
                      (first | simp only [add_plain] at hx143_1 | skip)
                      (first | simp only [add_plain] at hx143_2 | skip)
                      (first | simp only [add_plain] at hx143_3 | skip)
                      (first | simp only [add_plain] at hx143_4 | skip)
                      (first | simp only [add_plain] at hx143_5 | skip)
                      (first | simp only [add_plain] at hx143_6 | skip)
                      (first | simp only [add_plain] at hx144_0 | skip)
                      (first | simp only [add_plain] at hx144_1 | skip)
                      (first | simp only [add_plain] at hx144_2 | skip)
                      (first | simp only [add_plain] at hx144_3 | skip)
                      (first | simp only [add_plain] at hx144_4 | skip)
                      (first | simp only [add_plain] at hx144_5 | skip)
                      (first | simp only [add_plain] at hx144_6 | skip)
                      obtain ⟨ce21, hcl21, hM21, hcc21, hfr21⟩ := Kd.R_elem HO_6.out z37 (x7_1 : Int) p21 q21
                      obtain rfl := k37_openM hM21
                      have hx21_0 : wc.cell? ⟨go21, (x7_1 : Int).toNat * 7, none⟩ = some (.int .i64 ((rd_T37 x6_1 x7_1).f0)) := hcc21 0 _ rfl
                      have hx21_1 : wc.cell? ⟨go21, (x7_1 : Int).toNat * 7 + 1, none⟩ = some (.int .i64 ((rd_T37 x6_1 x7_1).f1.f0)) := hcc21 1 _ rfl
                      have hx21_2 : wc.cell? ⟨go21, (x7_1 : Int).toNat * 7 + 2, none⟩ = some (.int .i64 ((rd_T37 x6_1 x7_1).f1.f1)) := hcc21 2 _ rfl
                      have hx21_3 : wc.cell? ⟨go21, (x7_1 : Int).toNat * 7 + 3, none⟩ = some (.int .i64 ((rd_T37 x6_1 x7_1).f1.f2)) := hcc21 3 _ rfl
                      have hx21_4 : wc.cell? ⟨go21, (x7_1 : Int).toNat * 7 + 4, none⟩ = some (.int .i64 ((rd_T37 x6_1 x7_1).f1.f3)) := hcc21 4 _ rfl
                      have hx21_5 : wc.cell? ⟨go21, (x7_1 : Int).toNat * 7 + 5, none⟩ = some (.int .i32 ((rd_T37 x6_1 x7_1).f1.f4)) := hcc21 5 _ rfl
                      have hx21_6 : wc.cell? ⟨go21, (x7_1 : Int).toNat * 7 + 6, none⟩ = some (.int .i64 ((rd_T37 x6_1 x7_1).f2)) := hcc21 6 _ rfl
                      have hf21_0 : wc.frozen? ⟨go21, (x7_1 : Int).toNat * 7, none⟩ = false := hfr21 0
                      have hf21_1 : wc.frozen? ⟨go21, (x7_1 : Int).toNat * 7 + 1, none⟩ = false := hfr21 1
                      have hf21_2 : wc.frozen? ⟨go21, (x7_1 : Int).toNat * 7 + 2, none⟩ = false := hfr21 2
                      have hf21_3 : wc.frozen? ⟨go21, (x7_1 : Int).toNat * 7 + 3, none⟩ = false := hfr21 3
                      have hf21_4 : wc.frozen? ⟨go21, (x7_1 : Int).toNat * 7 + 4, none⟩ = false := hfr21 4
                      have hf21_5 : wc.frozen? ⟨go21, (x7_1 : Int).toNat * 7 + 5, none⟩ = false := hfr21 5
                      have hf21_6 : wc.frozen? ⟨go21, (x7_1 : Int).toNat * 7 + 6, none⟩ = false := hfr21 6
                      clear hcl21 hcc21 hfr21 hM21
                      replace p21 := eq_true p21
                      replace q21 := eq_true q21
                      have HX28 := Aside0.mk (show Kd.R k37 37 wc w.heap.size (fun k_ => some k_ ≠ (.slice Ao8 t134.length co8 : Value).ownBlock) (.slice (some ⟨go21, 0, none⟩) x6_1.length co12) x6_1 from (by (with_reducible repeat (first | apply Kd.R_alloc | apply Kd.R_drewN | apply Kd.R_drew)); exact HO_6.out))
                      obtain ⟨ce28, hcl28, hM28, hcc28, hfr28⟩ := Kd.R_elem HX28.out z37 (x7_1 : Int) (of_decide_eq_true (by first | (with_reducible assumption) | assumption)) (by have h_ : (x7_1 : Int) < ((x6_1.length : Int) : Int) := of_decide_eq_true (by first | (with_reducible assumption) | assumption); first | exact h_ | (have e_ := (Kd.R_reads' HO_6.out).1; omega) | simpa using h_)
                      obtain rfl := k37_openM hM28
                      have HP28 := Kd.R_seg HX28.out (x7_1 : Int) (of_decide_eq_true (by first | (with_reducible assumption) | assumption)) (by have h_ : (x7_1 : Int) < ((x6_1.length : Int) : Int) := of_decide_eq_true (by first | (with_reducible assumption) | assumption); first | exact h_ | (have e_ := (Kd.R_reads' HO_6.out).1; omega) | simpa using h_) (seg := [.int .i64 (wrap64 ((wrap64 (((rd_T37 x6_1 x7_1).f0) * 3)) + (wrap64 (a1))))]) (j := 0) hcl28 hcc28 (show 1 ≤ 7 from by decide) (x' := (⟨wrap64 ((wrap64 (((rd_T37 x6_1 x7_1).f0) * 3)) + (wrap64 (a1))), (⟨(rd_T37 x6_1 x7_1).f1.f0, (rd_T37 x6_1 x7_1).f1.f1, (rd_T37 x6_1 x7_1).f1.f2, (rd_T37 x6_1 x7_1).f1.f3, (rd_T37 x6_1 x7_1).f1.f4⟩ : S24), (rd_T37 x6_1 x7_1).f2⟩ : S37)) (k37_mkM _ _ _ (⟨wrap64 ((wrap64 (((rd_T37 x6_1 x7_1).f0) * 3)) + (wrap64 (a1))), (⟨(rd_T37 x6_1 x7_1).f1.f0, (rd_T37 x6_1 x7_1).f1.f1, (rd_T37 x6_1 x7_1).f1.f2, (rd_T37 x6_1 x7_1).f1.f3, (rd_T37 x6_1 x7_1).f1.f4⟩ : S24), (rd_T37 x6_1 x7_1).f2⟩ : S37) ) (fun _ hk => hk)
                      have hx28_0 := hcc28 0 _ rfl
                      (try simp only [show (k37).sz = 7 from rfl, Nat.mul_one, Nat.add_zero] at hx28_0)
                      have hf28_0 := hfr28 0
                      (try simp only [show (k37).sz = 7 from rfl, Nat.mul_one, Nat.add_zero] at hf28_0)
                      clear hcl28 hcc28 hfr28 hM28
                      go_wp2_with (first | ((with_reducible refine gate_store (t := 3) (p := 55) rfl ?_); refine store_event (t := 3) (p := 55) (v := ?vo_w29) (w1 := (wc.setCell ⟨go21, (x7_1 : Int).toNat * 7, none⟩ (.int .i64 (wrap64 ((wrap64 (((rd_T37 x6_1 x7_1).f0) * 3)) + (wrap64 (a1))))))) ?hg ?ho ?hn ?hr ?_; (case ho => rfl); (case hg => rfl); (case hn => rfl); (case hr => first | (go_simp; done) | (go_simp; rfl)); intro w29 hw; have hg : wc.grownBy w29 (some go21) := (by rw [hw]; exact HP28.2); have hp_ : Kd.R k37 37 w29 w.heap.size (fun k_ => some k_ ≠ (.slice Ao8 t134.length co8 : Value).ownBlock) (.slice (some ⟨go21, 0, none⟩) x6_1.length co12) y145 := (by rw [hw, Ny145.out]; exact HP28.1); clear HP28; have n0_ := Aside0.mk (Kd.R_after (v := (.slice (some ⟨go21, 0, none⟩) x6_1.length co12)) (v1 := (.slice (some ⟨go21, 0, none⟩) x6_1.length co12)) (ok := (fun _ => True)) (by (with_reducible repeat (first | apply Kd.R_alloc | apply Kd.R_drewN | apply Kd.R_drew)); exact Kd.R_mono HO_5.out (fun _ hk => ⟨trivial, hk⟩)) hg (.inl rfl)); have n1_ := Aside0.mk (hp_); have n2_ := Aside0.mk (blk_grown (g := gb133) (o := .cells #[.slice A0_0 l0_0.length c0_0, .int .i64 a0_1, .int .i64 a0_2, .int .i64 a0_3, .int .i64 a0_4, .int .i32 a0_5, .int .i64 a0_6, .slice A0_7 l0_7.length c0_7] 26 (0, 0)) (by (with_reducible repeat (first | refine blk_drewN ?_ _ | refine blk_drew ?_ | refine blk_alloc ?_ _)); exact BK133.out) hg (Kd.R_ne HO_6.out BK133.out (by decide))); have n3_ := Aside0.mk ((by rw [hw]; exact below_set (HB.out) GB21.out : Below w.heap.size w w29)); clear HO_5; clear HO_6; clear BK133; clear HB; have HO_5 := n0_; have HO_6 := n1_; have BK133 := n2_; have HB := n3_; clear n0_ n1_ n2_ n3_; clear hg hw hp_; have p146 : 0 ≤ (x7_1 : Int) := of_decide_eq_true (by first | (with_reducible assumption) | assumption); have q146 : x7_1 < (y145.length : Int) := (by have h_ : (x7_1 : Int) < ((x6_1.length : Int) : Int) := of_decide_eq_true (by first | (with_reducible assumption) | assumption); first | (have e_ := (Kd.R_reads' HO_6.out).1; omega) | simpa only [Ny145.out, List.length_set] using h_); have ql146 : ((x7_1 : Int) < ((x6_1.length : Int) : Int)) = True := eq_true (of_decide_eq_true (by first | (with_reducible assumption) | assumption)); obtain ⟨ad146, e146, hx146_0, hx146_1, hx146_2, hx146_3, hx146_4, hx146_5, hx146_6⟩ := at_T37 (Kd.R_reads' HO_6.out).2.2 x7_1 p146 q146; obtain rfl : (⟨go21, 0, none⟩ : Addr) = ad146 := (by injection e146); (first | simp only [add_plain] at hx146_0 | simp only [add_at] at hx146_0 | simp only [Addr.add, Nat.zero_add] at hx146_0 | skip); (first | simp only [add_plain] at hx146_1 | simp only [add_at] at hx146_1 | simp only [Addr.add, Nat.zero_add] at hx146_1 | skip); (first | simp only [add_plain] at hx146_2 | simp only [add_at] at hx146_2 | simp only [Addr.add, Nat.zero_add] at hx146_2 | skip); (first | simp only [add_plain] at hx146_3 | simp only [add_at] at hx146_3 | simp only [Addr.add, Nat.zero_add] at hx146_3 | skip); (first | simp only [add_plain] at hx146_4 | simp only [add_at] at hx146_4 | simp only [Addr.add, Nat.zero_add] at hx146_4 | skip); (first | simp only [add_plain] at hx146_5 | simp only [add_at] at hx146_5 | simp only [Addr.add, Nat.zero_add] at hx146_5 | skip); (first | simp only [add_plain] at hx146_6 | simp only [add_at] at hx146_6 | simp only [Addr.add, Nat.zero_add] at hx146_6 | skip); replace p146 := eq_true p146; replace q146 := eq_true q146))
                      go_roundg kj10
                      case measure => have := HK1.out; have := HJ10.out; omega
                      case rel => exact ⟨(y145), (wrap64 (x7_1 + 1)), (by first | rfl | (simp; done) | (simp [*]; done)), H', ⟨by have := HK1.out; have := HJ10.out; omega⟩, ⟨by (with_reducible repeat (first | apply Kd.R_alloc | apply Kd.R_drewN | apply Kd.R_drew)); exact Kd.R_mono HO_5.out (fun _ hk => hk.2)⟩, ⟨by (with_reducible repeat (first | apply Kd.R_alloc | apply Kd.R_drewN | apply Kd.R_drew)); exact HO_6.out⟩, ⟨by (with_reducible repeat (first | refine blk_drewN ?_ _ | refine blk_drew ?_ | refine blk_alloc ?_ _)); exact BK133.out⟩, ⟨by repeat (first | (with_reducible first | exact HB.out | apply below_alloc | apply pw_below_drewN | apply below_drew1 | refine below_set ?_ GE133.out) | exact HB.out)⟩⟩
                  · rw [if_neg c20] at H
                    have c20b0 : decide (0 < ((rd_T37 x6_1 x7_1).f0)) = false := decide_eq_false c20
                    clear c20
                    by_cases c30 : ((rd_T37 x6_1 x7_1).f2) > 0
                    · rw [if_pos c30] at H
                      have c30b0 : decide (0 < ((rd_T37 x6_1 x7_1).f2)) = true := decide_eq_true c30
                      clear c30
                      obtain ⟨y151, hy151⟩ : ∃ y_ : List (S37), y_ = (x6_1.set (x7_1 : Int).toNat (⟨(rd_T37 x6_1 x7_1).f0, (⟨(rd_T37 x6_1 x7_1).f1.f0, (rd_T37 x6_1 x7_1).f1.f1, (rd_T37 x6_1 x7_1).f1.f2, (rd_T37 x6_1 x7_1).f1.f3, (rd_T37 x6_1 x7_1).f1.f4⟩ : S24), wrap64 ((wrap64 (((rd_T37 x6_1 x7_1).f2) * 3)) + (wrap64 (a1)))⟩ : S37)) := ⟨_, rfl⟩
                      replace H : (cruciblelaw06_AsmNames.l0 kj10 a1 t134 y151 (wrap64 (x7_1 + 1))) = some r := by first | (rw [hy151]; with_reducible exact H) | (have H2_ := (Option.bind_some _ _).symm.trans H; rw [hy151]; with_reducible exact H2_) | (have H2_ := (Option.bind_some _ _).symm.trans H; with_reducible exact H2_) | with_reducible exact H | (rw [hy151]; exact H) | exact H
                      have Ny151 := Aside0.mk hy151
                      clear hy151
                      have H' := Aside0.mk H
                      clear H
                      have p143 : 0 ≤ (x7_1 : Int) := of_decide_eq_true (by first | (with_reducible assumption) | assumption)
                      have q143 : x7_1 < (x6_1.length : Int) := of_decide_eq_true (by first | (with_reducible assumption) | assumption)
                      obtain ⟨ad143, e143, hx143_0, hx143_1, hx143_2, hx143_3, hx143_4, hx143_5, hx143_6⟩ := at_T37 (Kd.R_reads' HO_6.out).2.2 x7_1 p143 q143
                      cases e143
                      replace p143 := eq_true p143
                      replace q143 := eq_true q143
                      have p149 : 0 ≤ (x7_1 : Int) := of_decide_eq_true (by first | (with_reducible assumption) | assumption)
                      have q149 : x7_1 < (x6_1.length : Int) := of_decide_eq_true (by first | (with_reducible assumption) | assumption)
                      obtain ⟨ad149, e149, hx149_0, hx149_1, hx149_2, hx149_3, hx149_4, hx149_5, hx149_6⟩ := at_T37 (Kd.R_reads' HO_6.out).2.2 x7_1 p149 q149
                      obtain rfl : ad143 = ad149 := (by injection e149)
                      replace p149 := eq_true p149
                      replace q149 := eq_true q149
                      have p150 : 0 ≤ (x7_1 : Int) := of_decide_eq_true (by first | (with_reducible assumption) | assumption)
                      have q150 : x7_1 < (x6_1.length : Int) := of_decide_eq_true (by first | (with_reducible assumption) | assumption)
                      obtain ⟨ad150, e150, hx150_0, hx150_1, hx150_2, hx150_3, hx150_4, hx150_5, hx150_6⟩ := at_T37 (Kd.R_reads' HO_6.out).2.2 x7_1 p150 q150
                      obtain rfl : ad143 = ad150 := (by injection e150)
                      replace p150 := eq_true p150
                      replace q150 := eq_true q150
                      have p31 : 0 ≤ (x7_1 : Int) := of_decide_eq_true (by first | (with_reducible assumption) | assumption)
                      have q31 : (x7_1 : Int) < ((x6_1.length : Int) : Int) := of_decide_eq_true (by first | (with_reducible assumption) | assumption)
                      obtain ⟨go31, co31, eo31, gb31, gl31, cl31, HG31⟩ := Kd.R_form HO_6.out (by omega)
                      (first | cases eo31 | (injection eo31 with ea_ en_ ec_; (first | subst ea_ | (injection ea_ with ea_; subst ea_)); subst ec_; clear en_))
                      have GB31 := Aside0.mk gb31
                      have GG31 := Aside0.mk HG31
                      clear gb31 gl31 HG31
                      (first | simp only [add_plain] at hx143_0 | skip)
                      (first | simp only [add_plain] at hx143_1 | skip)
                      (first | simp only [add_plain] at hx143_2 | skip)
                      (first | simp only [add_plain] at hx143_3 | skip)
                      (first | simp only [add_plain] at hx143_4 | skip)
                      (first | simp only [add_plain] at hx143_5 | skip)
                      (first | simp only [add_plain] at hx143_6 | skip)
                      (first | simp only [add_plain] at hx149_0 | skip)
                      (first | simp only [add_plain] at hx149_1 | skip)
                      (first | simp only [add_plain] at hx149_2 | skip)
                      (first | simp only [add_plain] at hx149_3 | skip)
                      (first | simp only [add_plain] at hx149_4 | skip)
                      (first | simp only [add_plain] at hx149_5 | skip)
                      (first | simp only [add_plain] at hx149_6 | skip)
                      (first | simp only [add_plain] at hx150_0 | skip)
                      (first | simp only [add_plain] at hx150_1 | skip)
                      (first | simp only [add_plain] at hx150_2 | skip)
                      (first | simp only [add_plain] at hx150_3 | skip)
                      (first | simp only [add_plain] at hx150_4 | skip)
                      (first | simp only [add_plain] at hx150_5 | skip)
                      (first | simp only [add_plain] at hx150_6 | skip)
                      obtain ⟨ce31, hcl31, hM31, hcc31, hfr31⟩ := Kd.R_elem HO_6.out z37 (x7_1 : Int) p31 q31
                      obtain rfl := k37_openM hM31
                      have hx31_0 : wc.cell? ⟨go31, (x7_1 : Int).toNat * 7, none⟩ = some (.int .i64 ((rd_T37 x6_1 x7_1).f0)) := hcc31 0 _ rfl
                      have hx31_1 : wc.cell? ⟨go31, (x7_1 : Int).toNat * 7 + 1, none⟩ = some (.int .i64 ((rd_T37 x6_1 x7_1).f1.f0)) := hcc31 1 _ rfl
                      have hx31_2 : wc.cell? ⟨go31, (x7_1 : Int).toNat * 7 + 2, none⟩ = some (.int .i64 ((rd_T37 x6_1 x7_1).f1.f1)) := hcc31 2 _ rfl
                      have hx31_3 : wc.cell? ⟨go31, (x7_1 : Int).toNat * 7 + 3, none⟩ = some (.int .i64 ((rd_T37 x6_1 x7_1).f1.f2)) := hcc31 3 _ rfl
                      have hx31_4 : wc.cell? ⟨go31, (x7_1 : Int).toNat * 7 + 4, none⟩ = some (.int .i64 ((rd_T37 x6_1 x7_1).f1.f3)) := hcc31 4 _ rfl
                      have hx31_5 : wc.cell? ⟨go31, (x7_1 : Int).toNat * 7 + 5, none⟩ = some (.int .i32 ((rd_T37 x6_1 x7_1).f1.f4)) := hcc31 5 _ rfl
                      have hx31_6 : wc.cell? ⟨go31, (x7_1 : Int).toNat * 7 + 6, none⟩ = some (.int .i64 ((rd_T37 x6_1 x7_1).f2)) := hcc31 6 _ rfl
                      have hf31_0 : wc.frozen? ⟨go31, (x7_1 : Int).toNat * 7, none⟩ = false := hfr31 0
                      have hf31_1 : wc.frozen? ⟨go31, (x7_1 : Int).toNat * 7 + 1, none⟩ = false := hfr31 1
                      have hf31_2 : wc.frozen? ⟨go31, (x7_1 : Int).toNat * 7 + 2, none⟩ = false := hfr31 2
                      have hf31_3 : wc.frozen? ⟨go31, (x7_1 : Int).toNat * 7 + 3, none⟩ = false := hfr31 3
                      have hf31_4 : wc.frozen? ⟨go31, (x7_1 : Int).toNat * 7 + 4, none⟩ = false := hfr31 4
                      have hf31_5 : wc.frozen? ⟨go31, (x7_1 : Int).toNat * 7 + 5, none⟩ = false := hfr31 5
                      have hf31_6 : wc.frozen? ⟨go31, (x7_1 : Int).toNat * 7 + 6, none⟩ = false := hfr31 6
                      clear hcl31 hcc31 hfr31 hM31
                      replace p31 := eq_true p31
                      replace q31 := eq_true q31
                      have HX32 := Aside0.mk (show Kd.R k37 37 wc w.heap.size (fun k_ => some k_ ≠ (.slice Ao8 t134.length co8 : Value).ownBlock) (.slice (some ⟨go31, 0, none⟩) x6_1.length co12) x6_1 from (by (with_reducible repeat (first | apply Kd.R_alloc | apply Kd.R_drewN | apply Kd.R_drew)); exact HO_6.out))
                      obtain ⟨ce32, hcl32, hM32, hcc32, hfr32⟩ := Kd.R_elem HX32.out z37 (x7_1 : Int) (of_decide_eq_true (by first | (with_reducible assumption) | assumption)) (by have h_ : (x7_1 : Int) < ((x6_1.length : Int) : Int) := of_decide_eq_true (by first | (with_reducible assumption) | assumption); first | exact h_ | (have e_ := (Kd.R_reads' HO_6.out).1; omega) | simpa using h_)
                      obtain rfl := k37_openM hM32
                      have HP32 := Kd.R_seg HX32.out (x7_1 : Int) (of_decide_eq_true (by first | (with_reducible assumption) | assumption)) (by have h_ : (x7_1 : Int) < ((x6_1.length : Int) : Int) := of_decide_eq_true (by first | (with_reducible assumption) | assumption); first | exact h_ | (have e_ := (Kd.R_reads' HO_6.out).1; omega) | simpa using h_) (seg := [.int .i64 (wrap64 ((wrap64 (((rd_T37 x6_1 x7_1).f2) * 3)) + (wrap64 (a1))))]) (j := 6) hcl32 hcc32 (show 7 ≤ 7 from by decide) (x' := (⟨(rd_T37 x6_1 x7_1).f0, (⟨(rd_T37 x6_1 x7_1).f1.f0, (rd_T37 x6_1 x7_1).f1.f1, (rd_T37 x6_1 x7_1).f1.f2, (rd_T37 x6_1 x7_1).f1.f3, (rd_T37 x6_1 x7_1).f1.f4⟩ : S24), wrap64 ((wrap64 (((rd_T37 x6_1 x7_1).f2) * 3)) + (wrap64 (a1)))⟩ : S37)) (k37_mkM _ _ _ (⟨(rd_T37 x6_1 x7_1).f0, (⟨(rd_T37 x6_1 x7_1).f1.f0, (rd_T37 x6_1 x7_1).f1.f1, (rd_T37 x6_1 x7_1).f1.f2, (rd_T37 x6_1 x7_1).f1.f3, (rd_T37 x6_1 x7_1).f1.f4⟩ : S24), wrap64 ((wrap64 (((rd_T37 x6_1 x7_1).f2) * 3)) + (wrap64 (a1)))⟩ : S37) ) (fun _ hk => hk)
                      have hx32_6 := hcc32 6 _ rfl
                      (try simp only [show (k37).sz = 7 from rfl, Nat.mul_one, Nat.add_zero] at hx32_6)
                      have hf32_6 := hfr32 6
                      (try simp only [show (k37).sz = 7 from rfl, Nat.mul_one, Nat.add_zero] at hf32_6)
                      clear hcl32 hcc32 hfr32 hM32
                      go_wp2_with (first | ((with_reducible refine gate_store (t := 3) (p := 74) rfl ?_); refine store_event (t := 3) (p := 74) (v := ?vo_w33) (w1 := (wc.setCell ⟨go31, (x7_1 : Int).toNat * 7 + 6, none⟩ (.int .i64 (wrap64 ((wrap64 (((rd_T37 x6_1 x7_1).f2) * 3)) + (wrap64 (a1))))))) ?hg ?ho ?hn ?hr ?_; (case ho => rfl); (case hg => rfl); (case hn => rfl); (case hr => first | (go_simp; done) | (go_simp; rfl)); intro w33 hw; have hg : wc.grownBy w33 (some go31) := (by rw [hw]; exact HP32.2); have hp_ : Kd.R k37 37 w33 w.heap.size (fun k_ => some k_ ≠ (.slice Ao8 t134.length co8 : Value).ownBlock) (.slice (some ⟨go31, 0, none⟩) x6_1.length co12) y151 := (by rw [hw, Ny151.out]; exact HP32.1); clear HP32; have n0_ := Aside0.mk (Kd.R_after (v := (.slice (some ⟨go31, 0, none⟩) x6_1.length co12)) (v1 := (.slice (some ⟨go31, 0, none⟩) x6_1.length co12)) (ok := (fun _ => True)) (by (with_reducible repeat (first | apply Kd.R_alloc | apply Kd.R_drewN | apply Kd.R_drew)); exact Kd.R_mono HO_5.out (fun _ hk => ⟨trivial, hk⟩)) hg (.inl rfl)); have n1_ := Aside0.mk (hp_); have n2_ := Aside0.mk (blk_grown (g := gb133) (o := .cells #[.slice A0_0 l0_0.length c0_0, .int .i64 a0_1, .int .i64 a0_2, .int .i64 a0_3, .int .i64 a0_4, .int .i32 a0_5, .int .i64 a0_6, .slice A0_7 l0_7.length c0_7] 26 (0, 0)) (by (with_reducible repeat (first | refine blk_drewN ?_ _ | refine blk_drew ?_ | refine blk_alloc ?_ _)); exact BK133.out) hg (Kd.R_ne HO_6.out BK133.out (by decide))); have n3_ := Aside0.mk ((by rw [hw]; exact below_set (HB.out) GB31.out : Below w.heap.size w w33)); clear HO_5; clear HO_6; clear BK133; clear HB; have HO_5 := n0_; have HO_6 := n1_; have BK133 := n2_; have HB := n3_; clear n0_ n1_ n2_ n3_; clear hg hw hp_))
                      go_roundg kj10
                      case measure => have := HK1.out; have := HJ10.out; omega
                      case rel => exact ⟨(y151), (wrap64 (x7_1 + 1)), (by first | rfl | (simp; done) | (simp [*]; done)), H', ⟨by have := HK1.out; have := HJ10.out; omega⟩, ⟨by (with_reducible repeat (first | apply Kd.R_alloc | apply Kd.R_drewN | apply Kd.R_drew)); exact Kd.R_mono HO_5.out (fun _ hk => hk.2)⟩, ⟨by (with_reducible repeat (first | apply Kd.R_alloc | apply Kd.R_drewN | apply Kd.R_drew)); exact HO_6.out⟩, ⟨by (with_reducible repeat (first | refine blk_drewN ?_ _ | refine blk_drew ?_ | refine blk_alloc ?_ _)); exact BK133.out⟩, ⟨by repeat (first | (with_reducible first | exact HB.out | apply below_alloc | apply pw_below_drewN | apply below_drew1 | refine below_set ?_ GE133.out) | exact HB.out)⟩⟩
                    · rw [if_neg c30] at H
                      have c30b0 : decide (0 < ((rd_T37 x6_1 x7_1).f2)) = false := decide_eq_false c30
                      clear c30
                      have H' := Aside0.mk H
                      clear H
                      have p143 : 0 ≤ (x7_1 : Int) := of_decide_eq_true (by first | (with_reducible assumption) | assumption)
                      have q143 : x7_1 < (x6_1.length : Int) := of_decide_eq_true (by first | (with_reducible assumption) | assumption)
                      obtain ⟨ad143, e143, hx143_0, hx143_1, hx143_2, hx143_3, hx143_4, hx143_5, hx143_6⟩ := at_T37 (Kd.R_reads' HO_6.out).2.2 x7_1 p143 q143
                      cases e143
                      replace p143 := eq_true p143
                      replace q143 := eq_true q143
                      have p149 : 0 ≤ (x7_1 : Int) := of_decide_eq_true (by first | (with_reducible assumption) | assumption)
                      have q149 : x7_1 < (x6_1.length : Int) := of_decide_eq_true (by first | (with_reducible assumption) | assumption)
                      obtain ⟨ad149, e149, hx149_0, hx149_1, hx149_2, hx149_3, hx149_4, hx149_5, hx149_6⟩ := at_T37 (Kd.R_reads' HO_6.out).2.2 x7_1 p149 q149
                      obtain rfl : ad143 = ad149 := (by injection e149)
                      replace p149 := eq_true p149
                      replace q149 := eq_true q149
                      go_wp2
                      go_roundg kj10
                      case measure => have := HK1.out; have := HJ10.out; omega
                      case rel => exact ⟨(x6_1), (wrap64 (x7_1 + 1)), (by first | rfl | (simp; done) | (simp [*]; done)), H', ⟨by have := HK1.out; have := HJ10.out; omega⟩, ⟨by (with_reducible repeat (first | apply Kd.R_alloc | apply Kd.R_drewN | apply Kd.R_drew)); exact HO_5.out⟩, ⟨by (with_reducible repeat (first | apply Kd.R_alloc | apply Kd.R_drewN | apply Kd.R_drew)); exact HO_6.out⟩, ⟨by (with_reducible repeat (first | refine blk_drewN ?_ _ | refine blk_drew ?_ | refine blk_alloc ?_ _)); exact BK133.out⟩, ⟨by repeat (first | (with_reducible first | exact HB.out | apply below_alloc | apply pw_below_drewN | apply below_drew1 | refine below_set ?_ GE133.out) | exact HB.out)⟩⟩
                · rw [if_neg c19] at H
                  exact absurd H (by simp)
              · rw [if_neg c18] at H
                exact absurd H (by simp)
      · rw [if_neg c10] at H
        have c10b0 : decide (x7_1 < (x6_1.length : Int)) = false := decide_eq_false c10
        clear c10
        replace H := Option.bind_eq_some_iff.mp H
        obtain ⟨t152, A340, H⟩ := H
        replace H : ((asm_Assemble.f t152).bind fun bt155 => ((asm_Assemble.f x6_1).bind fun bt157 => (if bt155.1.toList = bt157.1.toList then (if bt155.2 = bt157.2 then ((cruciblelaw06_awake.f).bind fun t159 => (some t159)) else (some false)) else (some false)))) = some r := H
        have A34 := Aside0.mk A340
        clear A340
        replace H := Option.bind_eq_some_iff.mp H
        obtain ⟨⟨t155, t156⟩, A350, H⟩ := H
        replace H : ((asm_Assemble.f x6_1).bind fun bt157 => (if t155.toList = bt157.1.toList then (if t156 = bt157.2 then ((cruciblelaw06_awake.f).bind fun t159 => (some t159)) else (some false)) else (some false))) = some r := H
        have A35 := Aside0.mk A350
        clear A350
        replace H := Option.bind_eq_some_iff.mp H
        obtain ⟨⟨t157, t158⟩, A360, H⟩ := H
        replace H : (if t155.toList = t157.toList then (if t156 = t158 then ((cruciblelaw06_awake.f).bind fun t159 => (some t159)) else (some false)) else (some false)) = some r := H
        have A36 := Aside0.mk A360
        clear A360
        by_cases c37 : t155.toList = t157.toList
        · rw [if_pos c37] at H
          have c37b0 : (t155.toList == t157.toList) = true := beq_iff_eq.mpr c37
          have c37b1 : (t155.toList != t157.toList) = false := bne_eq_false_iff_eq.mpr c37
          clear c37
          by_cases c38 : t156 = t158
          · rw [if_pos c38] at H
            have c38b0 : (t156 == t158) = true := beq_iff_eq.mpr c38
            have c38b1 : (t156 != t158) = false := bne_eq_false_iff_eq.mpr c38
            clear c38
            replace H := Option.bind_eq_some_iff.mp H
            obtain ⟨t159, A390, H⟩ := H
            replace H : (some t159) = some r := H
            have A39 := Aside0.mk A390
            clear A390
            obtain rfl := Option.some.inj H
            obtain ⟨Ao40, co40, eo40⟩ := Kd.R_slice HO_6.out
            subst eo40
            go_wp2_with (first | ((with_reducible refine gate_callee (f := 9) rfl ?_); refine goesL_ (some 77) rfl rfl Try.func9 (by kernel_rfl) rfl #[.slice Ao8 t134.length co8] rfl (by (try simp only [List.map_toArray, List.map_cons, List.map_nil]); first | done | rfl | (simp only [List.length_drop, List.length_take]; rfl)) ?_; (with_reducible refine (cruciblelaw06_own.calls _ _ t134 t152 _ ?side1 ?side2 A34.out).mono ?_); (case side1 => repeat (first | exact (Kd.R_reads' HO_5.out).2.2 | (with_reducible refine Kd.C_alloc ?_ _) | (with_reducible refine Kd.C_drewN ?_ _) | (with_reducible refine Kd.C_drew ?_))); (case side2 => exact (Kd.R_reads' HO_5.out).2.1); rintro e w41 ⟨v153, rfl, ho0, hb⟩; refine ⟨_, rfl, ?_⟩; have n0_ := Aside0.mk (Kd.R_elder' (by (with_reducible repeat (first | apply Kd.R_alloc | apply Kd.R_drewN | apply Kd.R_drew)); exact HO_5.out) (Kd.R_base ho0) hb); have n1_ := Aside0.mk (Kd.R_elder' (by (with_reducible repeat (first | apply Kd.R_alloc | apply Kd.R_drewN | apply Kd.R_drew)); exact HO_6.out) (Kd.R_base ho0) hb); have n2_ := Aside0.mk (Kd.R_lower (Kd.R_new' (Kd.R_new' ho0 (Kd.R_lt (by (with_reducible repeat (first | apply Kd.R_alloc | apply Kd.R_drewN | apply Kd.R_drew)); exact HO_5.out))) (Kd.R_lt (by (with_reducible repeat (first | apply Kd.R_alloc | apply Kd.R_drewN | apply Kd.R_drew)); exact HO_6.out))) (below_size (by repeat (first | (with_reducible first | exact HB.out | apply below_alloc | apply pw_below_drewN | apply below_drew1 | refine below_set ?_ GE133.out) | exact HB.out)))); have n3_ := Aside0.mk (blk_below (g := gb133) (o := .cells #[.slice A0_0 l0_0.length c0_0, .int .i64 a0_1, .int .i64 a0_2, .int .i64 a0_3, .int .i64 a0_4, .int .i32 a0_5, .int .i64 a0_6, .slice A0_7 l0_7.length c0_7] 26 (0, 0)) (by (with_reducible repeat (first | refine blk_drewN ?_ _ | refine blk_drew ?_ | refine blk_alloc ?_ _)); exact BK133.out) hb); have n4_ := Aside0.mk (below_step (by repeat (first | (with_reducible first | exact HB.out | apply below_alloc | apply pw_below_drewN | apply below_drew1 | refine below_set ?_ GE133.out) | exact HB.out)) hb); clear HO_5; clear HO_6; clear BK133; clear HB; have HO_5 := n0_; have HO_6 := n1_; have HO154 := n2_; have BK133 := n3_; have HB := n4_; clear n0_ n1_ n2_ n3_ n4_; (try clear hb); (try clear hb2); (try clear hk); (try clear hi); (try clear ho0); obtain ⟨Ao42, co42, eo42⟩ := Kd.R_slice HO154.out; subst eo42) | ((with_reducible refine gate_callee (f := 8) rfl ?_); refine goesL_ (some 78) rfl rfl Try.func8 (by kernel_rfl) rfl #[.slice Ao42 t152.length co42] rfl (by (try simp only [List.map_toArray, List.map_cons, List.map_nil]); first | done | rfl | (simp only [List.length_drop, List.length_take]; rfl)) ?_; (with_reducible refine (asm_Assemble.calls _ _ t152 t155 t156 _ ?side1 ?side2 A35.out).mono ?_); (case side1 => repeat (first | exact (Kd.R_reads' HO154.out).2.2 | (with_reducible refine Kd.C_alloc ?_ _) | (with_reducible refine Kd.C_drewN ?_ _) | (with_reducible refine Kd.C_drew ?_))); (case side2 => exact (Kd.R_reads' HO154.out).2.1); rintro e w43 ⟨rfl, hb⟩; refine ⟨_, rfl, ?_⟩; have n0_ := Aside0.mk (Kd.R_below (by (with_reducible repeat (first | apply Kd.R_alloc | apply Kd.R_drewN | apply Kd.R_drew)); exact HO_5.out) hb); have n1_ := Aside0.mk (Kd.R_below (by (with_reducible repeat (first | apply Kd.R_alloc | apply Kd.R_drewN | apply Kd.R_drew)); exact HO_6.out) hb); have n2_ := Aside0.mk (Kd.R_below (by (with_reducible repeat (first | apply Kd.R_alloc | apply Kd.R_drewN | apply Kd.R_drew)); exact HO154.out) hb); have n3_ := Aside0.mk (blk_below (g := gb133) (o := .cells #[.slice A0_0 l0_0.length c0_0, .int .i64 a0_1, .int .i64 a0_2, .int .i64 a0_3, .int .i64 a0_4, .int .i32 a0_5, .int .i64 a0_6, .slice A0_7 l0_7.length c0_7] 26 (0, 0)) (by (with_reducible repeat (first | refine blk_drewN ?_ _ | refine blk_drew ?_ | refine blk_alloc ?_ _)); exact BK133.out) hb); have n4_ := Aside0.mk (below_step (by repeat (first | (with_reducible first | exact HB.out | apply below_alloc | apply pw_below_drewN | apply below_drew1 | refine below_set ?_ GE133.out) | exact HB.out)) hb); clear HO_5; clear HO_6; clear HO154; clear BK133; clear HB; have HO_5 := n0_; have HO_6 := n1_; have HO154 := n2_; have BK133 := n3_; have HB := n4_; clear n0_ n1_ n2_ n3_ n4_; (try clear hb); (try clear hb2); (try clear hk); (try clear hi)) | ((with_reducible refine gate_callee (f := 8) rfl ?_); refine goesL_ (some 83) rfl rfl Try.func8 (by kernel_rfl) rfl #[.slice Ao40 x6_1.length co40] rfl (by (try simp only [List.map_toArray, List.map_cons, List.map_nil]); first | done | rfl | (simp only [List.length_drop, List.length_take]; rfl)) ?_; (with_reducible refine (asm_Assemble.calls _ _ x6_1 t157 t158 _ ?side1 ?side2 A36.out).mono ?_); (case side1 => repeat (first | exact (Kd.R_reads' HO_6.out).2.2 | (with_reducible refine Kd.C_alloc ?_ _) | (with_reducible refine Kd.C_drewN ?_ _) | (with_reducible refine Kd.C_drew ?_))); (case side2 => exact (Kd.R_reads' HO_6.out).2.1); rintro e w44 ⟨rfl, hb⟩; refine ⟨_, rfl, ?_⟩; have n0_ := Aside0.mk (Kd.R_below (by (with_reducible repeat (first | apply Kd.R_alloc | apply Kd.R_drewN | apply Kd.R_drew)); exact HO_5.out) hb); have n1_ := Aside0.mk (Kd.R_below (by (with_reducible repeat (first | apply Kd.R_alloc | apply Kd.R_drewN | apply Kd.R_drew)); exact HO_6.out) hb); have n2_ := Aside0.mk (Kd.R_below (by (with_reducible repeat (first | apply Kd.R_alloc | apply Kd.R_drewN | apply Kd.R_drew)); exact HO154.out) hb); have n3_ := Aside0.mk (blk_below (g := gb133) (o := .cells #[.slice A0_0 l0_0.length c0_0, .int .i64 a0_1, .int .i64 a0_2, .int .i64 a0_3, .int .i64 a0_4, .int .i32 a0_5, .int .i64 a0_6, .slice A0_7 l0_7.length c0_7] 26 (0, 0)) (by (with_reducible repeat (first | refine blk_drewN ?_ _ | refine blk_drew ?_ | refine blk_alloc ?_ _)); exact BK133.out) hb); have n4_ := Aside0.mk (below_step (by repeat (first | (with_reducible first | exact HB.out | apply below_alloc | apply pw_below_drewN | apply below_drew1 | refine below_set ?_ GE133.out) | exact HB.out)) hb); clear HO_5; clear HO_6; clear HO154; clear BK133; clear HB; have HO_5 := n0_; have HO_6 := n1_; have HO154 := n2_; have BK133 := n3_; have HB := n4_; clear n0_ n1_ n2_ n3_ n4_; (try clear hb); (try clear hb2); (try clear hk); (try clear hi)) | (go_at_call 13; (with_reducible refine (cruciblelaw06_awake.calls  t159 _ A39.out).mono ?_); rintro e w45 ⟨rfl, hb⟩; have n0_ := Aside0.mk (Kd.R_below (by (with_reducible repeat (first | apply Kd.R_alloc | apply Kd.R_drewN | apply Kd.R_drew)); exact HO_5.out) hb); have n1_ := Aside0.mk (Kd.R_below (by (with_reducible repeat (first | apply Kd.R_alloc | apply Kd.R_drewN | apply Kd.R_drew)); exact HO_6.out) hb); have n2_ := Aside0.mk (Kd.R_below (by (with_reducible repeat (first | apply Kd.R_alloc | apply Kd.R_drewN | apply Kd.R_drew)); exact HO154.out) hb); have n3_ := Aside0.mk (blk_below (g := gb133) (o := .cells #[.slice A0_0 l0_0.length c0_0, .int .i64 a0_1, .int .i64 a0_2, .int .i64 a0_3, .int .i64 a0_4, .int .i32 a0_5, .int .i64 a0_6, .slice A0_7 l0_7.length c0_7] 26 (0, 0)) (by (with_reducible repeat (first | refine blk_drewN ?_ _ | refine blk_drew ?_ | refine blk_alloc ?_ _)); exact BK133.out) hb); have n4_ := Aside0.mk (below_step (by repeat (first | (with_reducible first | exact HB.out | apply below_alloc | apply pw_below_drewN | apply below_drew1 | refine below_set ?_ GE133.out) | exact HB.out)) hb); clear HO_5; clear HO_6; clear HO154; clear BK133; clear HB; have HO_5 := n0_; have HO_6 := n1_; have HO154 := n2_; have BK133 := n3_; have HB := n4_; clear n0_ n1_ n2_ n3_ n4_; (try clear hb); (try clear hb2); (try clear hk); (try clear hi)))
            go_ret
            exact ⟨by first | rfl | (simp [errW_none, errW_some] <;> rfl) | (simp [*, errW_none, errW_some] <;> rfl), by repeat (first | (with_reducible first | exact HB.out | apply below_alloc | apply pw_below_drewN | apply below_drew1 | refine below_set ?_ GE133.out) | exact HB.out)⟩
          · rw [if_neg c38] at H
            have c38b0 : (t156 == t158) = false := beq_eq_false_iff_ne.mpr c38
            have c38b1 : (t156 != t158) = true := bne_iff_ne.mpr c38
            obtain rfl := Option.some.inj H
            obtain ⟨Ao46, co46, eo46⟩ := Kd.R_slice HO_6.out
            subst eo46
            go_wp2_with (first | ((with_reducible refine gate_callee (f := 9) rfl ?_); refine goesL_ (some 77) rfl rfl Try.func9 (by kernel_rfl) rfl #[.slice Ao8 t134.length co8] rfl (by (try simp only [List.map_toArray, List.map_cons, List.map_nil]); first | done | rfl | (simp only [List.length_drop, List.length_take]; rfl)) ?_; (with_reducible refine (cruciblelaw06_own.calls _ _ t134 t152 _ ?side1 ?side2 A34.out).mono ?_); (case side1 => repeat (first | exact (Kd.R_reads' HO_5.out).2.2 | (with_reducible refine Kd.C_alloc ?_ _) | (with_reducible refine Kd.C_drewN ?_ _) | (with_reducible refine Kd.C_drew ?_))); (case side2 => exact (Kd.R_reads' HO_5.out).2.1); rintro e w47 ⟨v153, rfl, ho0, hb⟩; refine ⟨_, rfl, ?_⟩; have n0_ := Aside0.mk (Kd.R_elder' (by (with_reducible repeat (first | apply Kd.R_alloc | apply Kd.R_drewN | apply Kd.R_drew)); exact HO_5.out) (Kd.R_base ho0) hb); have n1_ := Aside0.mk (Kd.R_elder' (by (with_reducible repeat (first | apply Kd.R_alloc | apply Kd.R_drewN | apply Kd.R_drew)); exact HO_6.out) (Kd.R_base ho0) hb); have n2_ := Aside0.mk (Kd.R_lower (Kd.R_new' (Kd.R_new' ho0 (Kd.R_lt (by (with_reducible repeat (first | apply Kd.R_alloc | apply Kd.R_drewN | apply Kd.R_drew)); exact HO_5.out))) (Kd.R_lt (by (with_reducible repeat (first | apply Kd.R_alloc | apply Kd.R_drewN | apply Kd.R_drew)); exact HO_6.out))) (below_size (by repeat (first | (with_reducible first | exact HB.out | apply below_alloc | apply pw_below_drewN | apply below_drew1 | refine below_set ?_ GE133.out) | exact HB.out)))); have n3_ := Aside0.mk (blk_below (g := gb133) (o := .cells #[.slice A0_0 l0_0.length c0_0, .int .i64 a0_1, .int .i64 a0_2, .int .i64 a0_3, .int .i64 a0_4, .int .i32 a0_5, .int .i64 a0_6, .slice A0_7 l0_7.length c0_7] 26 (0, 0)) (by (with_reducible repeat (first | refine blk_drewN ?_ _ | refine blk_drew ?_ | refine blk_alloc ?_ _)); exact BK133.out) hb); have n4_ := Aside0.mk (below_step (by repeat (first | (with_reducible first | exact HB.out | apply below_alloc | apply pw_below_drewN | apply below_drew1 | refine below_set ?_ GE133.out) | exact HB.out)) hb); clear HO_5; clear HO_6; clear BK133; clear HB; have HO_5 := n0_; have HO_6 := n1_; have HO154 := n2_; have BK133 := n3_; have HB := n4_; clear n0_ n1_ n2_ n3_ n4_; (try clear hb); (try clear hb2); (try clear hk); (try clear hi); (try clear ho0); obtain ⟨Ao48, co48, eo48⟩ := Kd.R_slice HO154.out; subst eo48) | ((with_reducible refine gate_callee (f := 8) rfl ?_); refine goesL_ (some 78) rfl rfl Try.func8 (by kernel_rfl) rfl #[.slice Ao48 t152.length co48] rfl (by (try simp only [List.map_toArray, List.map_cons, List.map_nil]); first | done | rfl | (simp only [List.length_drop, List.length_take]; rfl)) ?_; (with_reducible refine (asm_Assemble.calls _ _ t152 t155 t156 _ ?side1 ?side2 A35.out).mono ?_); (case side1 => repeat (first | exact (Kd.R_reads' HO154.out).2.2 | (with_reducible refine Kd.C_alloc ?_ _) | (with_reducible refine Kd.C_drewN ?_ _) | (with_reducible refine Kd.C_drew ?_))); (case side2 => exact (Kd.R_reads' HO154.out).2.1); rintro e w49 ⟨rfl, hb⟩; refine ⟨_, rfl, ?_⟩; have n0_ := Aside0.mk (Kd.R_below (by (with_reducible repeat (first | apply Kd.R_alloc | apply Kd.R_drewN | apply Kd.R_drew)); exact HO_5.out) hb); have n1_ := Aside0.mk (Kd.R_below (by (with_reducible repeat (first | apply Kd.R_alloc | apply Kd.R_drewN | apply Kd.R_drew)); exact HO_6.out) hb); have n2_ := Aside0.mk (Kd.R_below (by (with_reducible repeat (first | apply Kd.R_alloc | apply Kd.R_drewN | apply Kd.R_drew)); exact HO154.out) hb); have n3_ := Aside0.mk (blk_below (g := gb133) (o := .cells #[.slice A0_0 l0_0.length c0_0, .int .i64 a0_1, .int .i64 a0_2, .int .i64 a0_3, .int .i64 a0_4, .int .i32 a0_5, .int .i64 a0_6, .slice A0_7 l0_7.length c0_7] 26 (0, 0)) (by (with_reducible repeat (first | refine blk_drewN ?_ _ | refine blk_drew ?_ | refine blk_alloc ?_ _)); exact BK133.out) hb); have n4_ := Aside0.mk (below_step (by repeat (first | (with_reducible first | exact HB.out | apply below_alloc | apply pw_below_drewN | apply below_drew1 | refine below_set ?_ GE133.out) | exact HB.out)) hb); clear HO_5; clear HO_6; clear HO154; clear BK133; clear HB; have HO_5 := n0_; have HO_6 := n1_; have HO154 := n2_; have BK133 := n3_; have HB := n4_; clear n0_ n1_ n2_ n3_ n4_; (try clear hb); (try clear hb2); (try clear hk); (try clear hi)) | ((with_reducible refine gate_callee (f := 8) rfl ?_); refine goesL_ (some 83) rfl rfl Try.func8 (by kernel_rfl) rfl #[.slice Ao46 x6_1.length co46] rfl (by (try simp only [List.map_toArray, List.map_cons, List.map_nil]); first | done | rfl | (simp only [List.length_drop, List.length_take]; rfl)) ?_; (with_reducible refine (asm_Assemble.calls _ _ x6_1 t157 t158 _ ?side1 ?side2 A36.out).mono ?_); (case side1 => repeat (first | exact (Kd.R_reads' HO_6.out).2.2 | (with_reducible refine Kd.C_alloc ?_ _) | (with_reducible refine Kd.C_drewN ?_ _) | (with_reducible refine Kd.C_drew ?_))); (case side2 => exact (Kd.R_reads' HO_6.out).2.1); rintro e w50 ⟨rfl, hb⟩; refine ⟨_, rfl, ?_⟩; have n0_ := Aside0.mk (Kd.R_below (by (with_reducible repeat (first | apply Kd.R_alloc | apply Kd.R_drewN | apply Kd.R_drew)); exact HO_5.out) hb); have n1_ := Aside0.mk (Kd.R_below (by (with_reducible repeat (first | apply Kd.R_alloc | apply Kd.R_drewN | apply Kd.R_drew)); exact HO_6.out) hb); have n2_ := Aside0.mk (Kd.R_below (by (with_reducible repeat (first | apply Kd.R_alloc | apply Kd.R_drewN | apply Kd.R_drew)); exact HO154.out) hb); have n3_ := Aside0.mk (blk_below (g := gb133) (o := .cells #[.slice A0_0 l0_0.length c0_0, .int .i64 a0_1, .int .i64 a0_2, .int .i64 a0_3, .int .i64 a0_4, .int .i32 a0_5, .int .i64 a0_6, .slice A0_7 l0_7.length c0_7] 26 (0, 0)) (by (with_reducible repeat (first | refine blk_drewN ?_ _ | refine blk_drew ?_ | refine blk_alloc ?_ _)); exact BK133.out) hb); have n4_ := Aside0.mk (below_step (by repeat (first | (with_reducible first | exact HB.out | apply below_alloc | apply pw_below_drewN | apply below_drew1 | refine below_set ?_ GE133.out) | exact HB.out)) hb); clear HO_5; clear HO_6; clear HO154; clear BK133; clear HB; have HO_5 := n0_; have HO_6 := n1_; have HO154 := n2_; have BK133 := n3_; have HB := n4_; clear n0_ n1_ n2_ n3_ n4_; (try clear hb); (try clear hb2); (try clear hk); (try clear hi)))
            go_ret
            exact ⟨by first | rfl | (simp [errW_none, errW_some] <;> rfl) | (simp [*, errW_none, errW_some] <;> rfl), by repeat (first | (with_reducible first | exact HB.out | apply below_alloc | apply pw_below_drewN | apply below_drew1 | refine below_set ?_ GE133.out) | exact HB.out)⟩
        · rw [if_neg c37] at H
          have c37b0 : (t155.toList == t157.toList) = false := beq_eq_false_iff_ne.mpr c37
          have c37b1 : (t155.toList != t157.toList) = true := bne_iff_ne.mpr c37
          obtain rfl := Option.some.inj H
          obtain ⟨Ao51, co51, eo51⟩ := Kd.R_slice HO_6.out
          subst eo51
          go_wp2_with (first | ((with_reducible refine gate_callee (f := 9) rfl ?_); refine goesL_ (some 77) rfl rfl Try.func9 (by kernel_rfl) rfl #[.slice Ao8 t134.length co8] rfl (by (try simp only [List.map_toArray, List.map_cons, List.map_nil]); first | done | rfl | (simp only [List.length_drop, List.length_take]; rfl)) ?_; (with_reducible refine (cruciblelaw06_own.calls _ _ t134 t152 _ ?side1 ?side2 A34.out).mono ?_); (case side1 => repeat (first | exact (Kd.R_reads' HO_5.out).2.2 | (with_reducible refine Kd.C_alloc ?_ _) | (with_reducible refine Kd.C_drewN ?_ _) | (with_reducible refine Kd.C_drew ?_))); (case side2 => exact (Kd.R_reads' HO_5.out).2.1); rintro e w52 ⟨v153, rfl, ho0, hb⟩; refine ⟨_, rfl, ?_⟩; have n0_ := Aside0.mk (Kd.R_elder' (by (with_reducible repeat (first | apply Kd.R_alloc | apply Kd.R_drewN | apply Kd.R_drew)); exact HO_5.out) (Kd.R_base ho0) hb); have n1_ := Aside0.mk (Kd.R_elder' (by (with_reducible repeat (first | apply Kd.R_alloc | apply Kd.R_drewN | apply Kd.R_drew)); exact HO_6.out) (Kd.R_base ho0) hb); have n2_ := Aside0.mk (Kd.R_lower (Kd.R_new' (Kd.R_new' ho0 (Kd.R_lt (by (with_reducible repeat (first | apply Kd.R_alloc | apply Kd.R_drewN | apply Kd.R_drew)); exact HO_5.out))) (Kd.R_lt (by (with_reducible repeat (first | apply Kd.R_alloc | apply Kd.R_drewN | apply Kd.R_drew)); exact HO_6.out))) (below_size (by repeat (first | (with_reducible first | exact HB.out | apply below_alloc | apply pw_below_drewN | apply below_drew1 | refine below_set ?_ GE133.out) | exact HB.out)))); have n3_ := Aside0.mk (blk_below (g := gb133) (o := .cells #[.slice A0_0 l0_0.length c0_0, .int .i64 a0_1, .int .i64 a0_2, .int .i64 a0_3, .int .i64 a0_4, .int .i32 a0_5, .int .i64 a0_6, .slice A0_7 l0_7.length c0_7] 26 (0, 0)) (by (with_reducible repeat (first | refine blk_drewN ?_ _ | refine blk_drew ?_ | refine blk_alloc ?_ _)); exact BK133.out) hb); have n4_ := Aside0.mk (below_step (by repeat (first | (with_reducible first | exact HB.out | apply below_alloc | apply pw_below_drewN | apply below_drew1 | refine below_set ?_ GE133.out) | exact HB.out)) hb); clear HO_5; clear HO_6; clear BK133; clear HB; have HO_5 := n0_; have HO_6 := n1_; have HO154 := n2_; have BK133 := n3_; have HB := n4_; clear n0_ n1_ n2_ n3_ n4_; (try clear hb); (try clear hb2); (try clear hk); (try clear hi); (try clear ho0); obtain ⟨Ao53, co53, eo53⟩ := Kd.R_slice HO154.out; subst eo53) | ((with_reducible refine gate_callee (f := 8) rfl ?_); refine goesL_ (some 78) rfl rfl Try.func8 (by kernel_rfl) rfl #[.slice Ao53 t152.length co53] rfl (by (try simp only [List.map_toArray, List.map_cons, List.map_nil]); first | done | rfl | (simp only [List.length_drop, List.length_take]; rfl)) ?_; (with_reducible refine (asm_Assemble.calls _ _ t152 t155 t156 _ ?side1 ?side2 A35.out).mono ?_); (case side1 => repeat (first | exact (Kd.R_reads' HO154.out).2.2 | (with_reducible refine Kd.C_alloc ?_ _) | (with_reducible refine Kd.C_drewN ?_ _) | (with_reducible refine Kd.C_drew ?_))); (case side2 => exact (Kd.R_reads' HO154.out).2.1); rintro e w54 ⟨rfl, hb⟩; refine ⟨_, rfl, ?_⟩; have n0_ := Aside0.mk (Kd.R_below (by (with_reducible repeat (first | apply Kd.R_alloc | apply Kd.R_drewN | apply Kd.R_drew)); exact HO_5.out) hb); have n1_ := Aside0.mk (Kd.R_below (by (with_reducible repeat (first | apply Kd.R_alloc | apply Kd.R_drewN | apply Kd.R_drew)); exact HO_6.out) hb); have n2_ := Aside0.mk (Kd.R_below (by (with_reducible repeat (first | apply Kd.R_alloc | apply Kd.R_drewN | apply Kd.R_drew)); exact HO154.out) hb); have n3_ := Aside0.mk (blk_below (g := gb133) (o := .cells #[.slice A0_0 l0_0.length c0_0, .int .i64 a0_1, .int .i64 a0_2, .int .i64 a0_3, .int .i64 a0_4, .int .i32 a0_5, .int .i64 a0_6, .slice A0_7 l0_7.length c0_7] 26 (0, 0)) (by (with_reducible repeat (first | refine blk_drewN ?_ _ | refine blk_drew ?_ | refine blk_alloc ?_ _)); exact BK133.out) hb); have n4_ := Aside0.mk (below_step (by repeat (first | (with_reducible first | exact HB.out | apply below_alloc | apply pw_below_drewN | apply below_drew1 | refine below_set ?_ GE133.out) | exact HB.out)) hb); clear HO_5; clear HO_6; clear HO154; clear BK133; clear HB; have HO_5 := n0_; have HO_6 := n1_; have HO154 := n2_; have BK133 := n3_; have HB := n4_; clear n0_ n1_ n2_ n3_ n4_; (try clear hb); (try clear hb2); (try clear hk); (try clear hi)) | ((with_reducible refine gate_callee (f := 8) rfl ?_); refine goesL_ (some 83) rfl rfl Try.func8 (by kernel_rfl) rfl #[.slice Ao51 x6_1.length co51] rfl (by (try simp only [List.map_toArray, List.map_cons, List.map_nil]); first | done | rfl | (simp only [List.length_drop, List.length_take]; rfl)) ?_; (with_reducible refine (asm_Assemble.calls _ _ x6_1 t157 t158 _ ?side1 ?side2 A36.out).mono ?_); (case side1 => repeat (first | exact (Kd.R_reads' HO_6.out).2.2 | (with_reducible refine Kd.C_alloc ?_ _) | (with_reducible refine Kd.C_drewN ?_ _) | (with_reducible refine Kd.C_drew ?_))); (case side2 => exact (Kd.R_reads' HO_6.out).2.1); rintro e w55 ⟨rfl, hb⟩; refine ⟨_, rfl, ?_⟩; have n0_ := Aside0.mk (Kd.R_below (by (with_reducible repeat (first | apply Kd.R_alloc | apply Kd.R_drewN | apply Kd.R_drew)); exact HO_5.out) hb); have n1_ := Aside0.mk (Kd.R_below (by (with_reducible repeat (first | apply Kd.R_alloc | apply Kd.R_drewN | apply Kd.R_drew)); exact HO_6.out) hb); have n2_ := Aside0.mk (Kd.R_below (by (with_reducible repeat (first | apply Kd.R_alloc | apply Kd.R_drewN | apply Kd.R_drew)); exact HO154.out) hb); have n3_ := Aside0.mk (blk_below (g := gb133) (o := .cells #[.slice A0_0 l0_0.length c0_0, .int .i64 a0_1, .int .i64 a0_2, .int .i64 a0_3, .int .i64 a0_4, .int .i32 a0_5, .int .i64 a0_6, .slice A0_7 l0_7.length c0_7] 26 (0, 0)) (by (with_reducible repeat (first | refine blk_drewN ?_ _ | refine blk_drew ?_ | refine blk_alloc ?_ _)); exact BK133.out) hb); have n4_ := Aside0.mk (below_step (by repeat (first | (with_reducible first | exact HB.out | apply below_alloc | apply pw_below_drewN | apply below_drew1 | refine below_set ?_ GE133.out) | exact HB.out)) hb); clear HO_5; clear HO_6; clear HO154; clear BK133; clear HB; have HO_5 := n0_; have HO_6 := n1_; have HO154 := n2_; have BK133 := n3_; have HB := n4_; clear n0_ n1_ n2_ n3_ n4_; (try clear hb); (try clear hb2); (try clear hk); (try clear hi)))
          go_ret
          exact ⟨by first | rfl | (simp [errW_none, errW_some] <;> rfl) | (simp [*, errW_none, errW_some] <;> rfl), by repeat (first | (with_reducible first | exact HB.out | apply below_alloc | apply pw_below_drewN | apply below_drew1 | refine below_set ?_ GE133.out) | exact HB.out)⟩

/-! ### asm_Place: function 14 (walked by hand in AsH) -/
def asm_Place.f (l0 : List (S37)) (a1 : Int) : Option (Int × Int) := some (Asm.placeV l0 a1)
theorem asm_Place.calls (A0 : Option Addr) (c0 : Nat) (l0 : List (S37)) (a1 : Int) (r1 : Int) (r2 : Int) (w : World) (hr0 : Kd.C k37 w A0 l0.length l0) (hc0 : l0.length ≤ c0) (h : asm_Place.f l0 a1 = some (r1, r2)) :
    Calls Try.prog 14 #[.slice A0 l0.length c0, .int .i64 a1] w fun e w' => e = .returned (.tuple #[.int .i64 r1, .int .i64 r2]) ∧ Below w.heap.size w w' := by
  obtain ⟨h1, h2⟩ : (Asm.placeV l0 a1).1 = r1 ∧ (Asm.placeV l0 a1).2 = r2 := by have := Option.some.inj h; rw [this]; exact ⟨rfl, rfl⟩
  subst h1
  subst h2
  exact Asm.Place_calls a1 ⟨hr0⟩


end Go.Proofs.Ytdhmnjoceeolcaa.GF
