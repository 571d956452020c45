/- Texts laid together for a claim. -/
import Derived.Test.YtdhmnjoceeolcaaPb4
section
namespace Go.Proofs.Ytdhmnjoceeolcaa.Asm
open Go.RowKit Go.Proofs.YtdhmnjoceeolcaaW.PrintWords Go.Proofs.YtdhmnjoceeolcaaW.PrintLast Go.Proofs.YtdhmnjoceeolcaaW.PrintMore Go.Proofs.Ytdhmnjoceeolcaa.GF
set_option linter.unusedVariables false
set_option linter.unusedSimpArgs false
def settled.T1 : Bool × List (List Nat × List Nat) := (true, [([], []), ([0], [0]), ([1, 1], [1]), ([], []), ([3], [3]), ([4, 4], [4]), ([], []), ([6], [6]), ([7], [7]), ([8, 8], [8]), ([2, 5, 9], [2, 5, 9]), ([], []), ([11, 10, 0, 1, 2, 3, 4, 5, 6, 7, 8, 9, 10, 11], [10, 11])])
def settled.B1 : List Nat := [0, 1, 3, 0, 8, 24, 0, 64, 192, 448, 1023, 0, 4095]
theorem settled.tab1 : rtab .any (opsOf Try.f20 1) = settled.T1 := by kernel_rfl
theorem settled.bits1 : waitsOk settled.T1.2 settled.B1 = true := by kernel_rfl
theorem away_calls {w wr : World} {l : List S37} {b bt bl ba : Nat} {g : List Bool} (H : Okl l) (hY : Sy w wr l.length b bt bl ba (toV l) g (ats l g)) (i : Nat) (hi : i < l.length) (hp : 0 < (l.getD i z37).f2) :
    Calls Try.prog 22 #[yA l.length bt bl ba, .int .i64 i, .int .i64 (atV l g i + 1)] wr fun e w' => e = .returned (.int .i64 (dV l g i)) ∧ Below wr.heap.size wr w' := by
  have hn := H.len
  have h1 := (Kd.R_reads' (R_is (w := w) hY.tt (Nat.le_of_lt hY.ht) hY.lt (by omega) (fun _ => True) trivial)).2.2
  have h2 := (Kd.R_reads' (R_bs (w := w) hY.ll (Nat.le_of_lt hY.hl) hY.lg (by omega) (fun _ => True) trivial)).2.2
  have h3 := (Kd.R_reads' (R_is (w := w) hY.aa (Nat.le_of_lt hY.ha) hY.la (by omega) (fun _ => True) trivial)).2.2
  have ha := away_dV H g i hi hp 1 (by omega) (by omega)
  rw [show dV l g i + 1 - 1 = dV l g i by omega] at ha
  have := crucibleref06_away.calls _ l.length (toV l) _ l.length g _ (l.length + 1) (ats l g) (i : Int) (atV l g i + 1) (dV l g i) wr h1 (by rw [hY.lt]; omega) h2 (by rw [hY.lg]; omega) h3 (by rw [hY.la]; omega) ha
  rwa [hY.lt, hY.lg, hY.la] at this
theorem upto_set {t v : List Int} {i : Nat} {x : Int} (h : ∀ j, j < i → t.getD j 0 = v.getD j 0) (hi : i < t.length) (hx : x = v.getD i 0) : ∀ j, j < i + 1 → (t.set i x).getD j 0 = v.getD j 0 := fun j hj => by
  by_cases e : j = i
  · subst e
    rw [List.getD_eq_getElem?_getD, List.getElem?_set_self hi]; exact hx
  · rw [List.getD_eq_getElem?_getD, List.getElem?_set_ne (fun h => e h.symm), ← List.getD_eq_getElem?_getD]; exact h j (by omega)
theorem upto_eq {t v : List Int} (hl : t.length = v.length) (h : ∀ j, j < t.length → t.getD j 0 = v.getD j 0) : t = v := by
  apply List.ext_getElem hl
  intro i h1 h2
  have := h i h1
  rwa [List.getD_eq_getElem?_getD, List.getElem?_eq_getElem h1, List.getD_eq_getElem?_getD, List.getElem?_eq_getElem h2] at this
/-- What settled leaves. -/
def RetS (w : World) (l : List S37) (e : Ending) (w' : World) : Prop :=
  ∃ bt bl ba : Nat, e = .returned (yA l.length bt bl ba) ∧ w.heap.size ≤ bt ∧ w.heap.size ≤ bl ∧ w.heap.size ≤ ba ∧ bt ≠ ba ∧ Aside0 (w'.heap[bt]? = some (.cells (is (toV l)) 3 (0, 0))) ∧ Aside0 (w'.heap[bl]? = some (.cells (bs (settle l)) 4 (0, 0))) ∧ Aside0 (w'.heap[ba]? = some (.cells (is (ats l (settle l))) 3 (0, 0))) ∧ Aside0 (Below w.heap.size w w')
abbrev nO : Obj := .cells #[.slice none 0 0, .slice none 0 0, .slice none 0 0] 59 (0, 0)
set_option maxHeartbeats 32000000 in
set_option maxRecDepth 100000 in
theorem settled_calls {w : World} {A : Option Addr} {l : List S37} {c : Nat} (hL : Aside0 (Kd.C k37 w A l.length l)) (hc : Aside0 (l.length ≤ c)) (H : Aside0 (Okl l)) :
    Calls Try.prog 20 #[.slice A l.length c] w (RetS w l) := by
  have hlen := H.out.len
  have hmk47 := mk47 l.length hlen
  have hmk47n := mk47n l.length hlen
  have hmk48 := mk48 l.length hlen
  have hwr0 : IntKind.i64.wrap ((l.length : Int) + 1) = (l.length : Int) + 1 := IntWalk.i64_in _ (by omega)
  obtain ⟨s, es, S⟩ := sorted_some l hlen l.length 0 l.length (4 * l.length + 4) (by omega) (by omega) (by omega) (by omega) (by omega)
  replace es := Aside0.mk es
  replace S := Aside0.mk S
  have hpos : Aside0 (∀ i, i < l.length → 0 ≤ (l.getD i z37).f0) := ⟨fun i hi => (may_label _ (H.out.may i hi)).1⟩
  have BR0 := Aside0.mk (blk_new w nO)
  have BL0 : Aside0 (Below w.heap.size w (w.alloc nO)) := ⟨below_alloc (Below.refl _ _) _⟩
  have SZ0 : Aside0 (w.heap.size < (w.alloc nO).heap.size) := ⟨by simp⟩
  go_enter Try.func20, Try.ntmps20
  go_upto_region 1 with (fail)
  generalize w.alloc nO = W0 at *
  go_cut [3] (fun u3 wx => ∃ b bt bl ba : Nat, u3 = PP b ∧ Aside0 (Sy w wx l.length b bt bl ba (zT l.length) (fA l.length) (zA l.length)))
  case first =>
    refine start_ (n := 13) (S := fun w' => True) (ds := []) #[false, false, false, false, false, false, false, false, false, false, false, false, false] (by kernel_rfl) rfl rfl trivial (fun hHeld => ?_)
    refine with_tabW settled.tab1 settled.bits1 (fun HT_ HW_ => ?_)
    have BL : Aside0 (Below w.heap.size w W0.drew) := ⟨below_drew BL0.out⟩
    have BR : Aside0 (W0.drew.heap[w.heap.size]? = some nO) := ⟨BR0.out⟩
    have SZ : Aside0 (w.heap.size < W0.drew.heap.size) := ⟨SZ0.out⟩
    clear BL0 BR0 SZ0
    generalize W0.drew = Wd at *
    refine pure_ (i := 0) (N := some 12) (v := ?_) (a' := ?_) #[true, false, false, false, false, false, false, false, false, false, false, false, false] rfl rfl (any_of HT_.out (by kernel_rfl)) (fun _ _ _ h => h) (Or.inl ⟨by rfl, ?_⟩) ?_ ?_
    rotate_left
    · intro w'
      go_simp
      with_reducible rfl
    rotate_left
    · simp only [Act.put, List.setIfInBounds_toArray, List.set_cons_zero, List.set_cons_succ, i64_w, i32_w]
      rfl
    refine pure_ (i := 1) (N := some 13) (v := ?_) (a' := ?_) #[true, true, false, false, false, false, false, false, false, false, false, false, false] rfl rfl (any_of HT_.out (by kernel_rfl)) (fun _ _ _ h => h) (Or.inl ⟨by rfl, ?_⟩) ?_ ?_
    rotate_left
    · intro w'
      go_simp
      with_reducible rfl
    rotate_left
    · simp only [Act.put, List.setIfInBounds_toArray, List.set_cons_zero, List.set_cons_succ, i64_w, i32_w]
      rfl
    refine pure_ (i := 3) (N := some 15) (v := ?_) (a' := ?_) #[true, true, false, true, false, false, false, false, false, false, false, false, false] rfl rfl (any_of HT_.out (by kernel_rfl)) (fun _ _ _ h => h) (Or.inl ⟨by rfl, ?_⟩) ?_ ?_
    rotate_left
    · intro w'
      go_simp
      with_reducible rfl
    rotate_left
    · simp only [Act.put, List.setIfInBounds_toArray, List.set_cons_zero, List.set_cons_succ, i64_w, i32_w]
      rfl
    refine pure_ (i := 4) (N := some 16) (v := ?_) (a' := ?_) #[true, true, false, true, true, false, false, false, false, false, false, false, false] rfl rfl (any_of HT_.out (by kernel_rfl)) (fun _ _ _ h => h) (Or.inl ⟨by rfl, ?_⟩) ?_ ?_
    rotate_left
    · intro w'
      go_simp
      with_reducible rfl
    rotate_left
    · simp only [Act.put, List.setIfInBounds_toArray, List.set_cons_zero, List.set_cons_succ, i64_w, i32_w]
      rfl
    refine pure_ (i := 6) (N := some 18) (v := ?_) (a' := ?_) #[true, true, false, true, true, false, true, false, false, false, false, false, false] rfl rfl (any_of HT_.out (by kernel_rfl)) (fun _ _ _ h => h) (Or.inl ⟨by rfl, ?_⟩) ?_ ?_
    rotate_left
    · intro w'
      go_simp
      with_reducible rfl
    rotate_left
    · simp only [Act.put, List.setIfInBounds_toArray, List.set_cons_zero, List.set_cons_succ, i64_w, i32_w]
      rfl
    refine pure_ (i := 7) (N := some 19) (v := ?_) (a' := ?_) #[true, true, false, true, true, false, true, true, false, false, false, false, false] rfl rfl (any_of HT_.out (by kernel_rfl)) (fun _ _ _ h => h) (Or.inl ⟨by rfl, ?_⟩) ?_ ?_
    rotate_left
    · intro w'
      go_simp
      with_reducible rfl
    rotate_left
    · simp only [Act.put, List.setIfInBounds_toArray, List.set_cons_zero, List.set_cons_succ, i64_w, i32_w]
      rfl
    refine pure_ (i := 8) (N := some 20) (v := ?_) (a' := ?_) #[true, true, false, true, true, false, true, true, true, false, false, false, false] rfl rfl (any_of HT_.out (by kernel_rfl)) (fun _ _ _ h => h) (Or.inl ⟨by rfl, ?_⟩) ?_ ?_
    rotate_left
    · intro w'
      go_simp
      with_reducible rfl
    rotate_left
    · simp only [Act.put, List.setIfInBounds_toArray, List.set_cons_zero, List.set_cons_succ, i64_w, i32_w]
      rfl
    refine inv_at [2, 5, 9, 10, 11, 12] (fun a0_ b a w' => ∃ (z2 : Value) (z5 : Value) (z9 : Value) (zb : Value) (m10_ : Value), a = putSel a0_ b [(2, 14, z2), (5, 17, z5), (9, 21, z9), (10, 22, m10_), (11, 3, zb)] ∧ (Below w.heap.size w w') ∧ (w'.heap[w.heap.size]? = some nO) ∧ (b 12 = false → w.heap.size < w'.heap.size) ∧ (b 2 = true → Ma w w' z2 l.length (is (zT l.length)) 3) ∧ (b 5 = true → Ma w w' z5 l.length (bs (fA l.length)) 4) ∧ (b 9 = true → Ma w w' z9 (l.length + 1) (is (zA l.length)) 3) ∧ (b 11 = true → b 12 = false → Bx w w' zb #[.slice none 0 0, .slice none 0 0, .slice none 0 0]) ∧ (b 12 = true → Bx w w' zb #[z2, z5, z9]) ∧ (b 10 = true → (m10_ : Value) = .agg #[z2, z5, z9])) HT_.out HW_.out (by kernel_rfl) (by kernel_rfl) ?_ ?_ ?_
    · exact ⟨.bool false, .bool false, .bool false, .bool false, .bool false, by simp only [putSel, Bool.false_eq_true, if_false], BL.out, BR.out, fun _ => SZ.out, fun h_ => absurd h_ (by decide), fun h_ => absurd h_ (by decide), fun h_ => absurd h_ (by decide), fun h_ => absurd h_ (by decide), fun h_ => absurd h_ (by decide), fun h_ => absurd h_ (by decide)⟩
    · skip
      clear BL BR SZ
      refine steps_cons ?_ ?_
      · rintro b a w' ⟨z2, z5, z9, zb, m10_, ha, Q_BL, Q_BR, Q_SZ, Q_F2, Q_F5, Q_F9, Q_P0, Q_P1, Q_X10_⟩ hb_ hon hoff
        refine ⟨_, rfl, fun K hK => ?_⟩
        have e13 : a.tmps[13]? = some (.int .i64 (l.length : Int)) := by rw [ha]; exact (putSel_off rfl).trans rfl
        replace ha := Aside0.mk ha
        have BL := Aside0.mk Q_BL
        have BR := Aside0.mk Q_BR
        have SZ := Aside0.mk (Q_SZ (hoff 12 (by kernel_rfl)))
        refine value_ (w1 := w'.alloc (.cells (is (zT l.length)) 3)) (v := .slice (some ⟨w'.heap.size, 0, none⟩) l.length l.length) (by rfl) rfl ?_ ?_
        · go_simp
        refine hK.out _ _ ⟨(.slice (some ⟨w'.heap.size, 0, none⟩) l.length l.length), z5, z9, zb, m10_, (by rw [ha.out]; exact putSel_upk 0 hb_ rfl rfl rfl), below_alloc BL.out _, blk_alloc BR.out _, fun _ => lt_alloc SZ.out _, fun _ => Ma.new SZ.out _ _ _, fun h0_ => (Q_F5 h0_).alloc _, fun h0_ => (Q_F9 h0_).alloc _, fun h0_ h1_ => (Q_P0 h0_ h1_).alloc _, fun h0_ => absurd ((hoff 12 (by kernel_rfl)).symm.trans h0_) (by decide), fun h0_ => absurd ((hoff 10 (by kernel_rfl)).symm.trans h0_) (by decide)⟩
      refine steps_cons ?_ ?_
      · rintro b a w' ⟨z2, z5, z9, zb, m10_, ha, Q_BL, Q_BR, Q_SZ, Q_F2, Q_F5, Q_F9, Q_P0, Q_P1, Q_X10_⟩ hb_ hon hoff
        refine ⟨_, rfl, fun K hK => ?_⟩
        have e16 : a.tmps[16]? = some (.int .i64 (l.length : Int)) := by rw [ha]; exact (putSel_off rfl).trans rfl
        replace ha := Aside0.mk ha
        have BL := Aside0.mk Q_BL
        have BR := Aside0.mk Q_BR
        have SZ := Aside0.mk (Q_SZ (hoff 12 (by kernel_rfl)))
        refine value_ (w1 := w'.alloc (.cells (bs (fA l.length)) 4)) (v := .slice (some ⟨w'.heap.size, 0, none⟩) l.length l.length) (by rfl) rfl ?_ ?_
        · go_simp
        refine hK.out _ _ ⟨z2, (.slice (some ⟨w'.heap.size, 0, none⟩) l.length l.length), z9, zb, m10_, (by rw [ha.out]; exact putSel_upk 1 hb_ rfl rfl rfl), below_alloc BL.out _, blk_alloc BR.out _, fun _ => lt_alloc SZ.out _, fun h0_ => (Q_F2 h0_).alloc _, fun _ => Ma.new SZ.out _ _ _, fun h0_ => (Q_F9 h0_).alloc _, fun h0_ h1_ => (Q_P0 h0_ h1_).alloc _, fun h0_ => absurd ((hoff 12 (by kernel_rfl)).symm.trans h0_) (by decide), fun h0_ => absurd ((hoff 10 (by kernel_rfl)).symm.trans h0_) (by decide)⟩
      refine steps_cons ?_ ?_
      · rintro b a w' ⟨z2, z5, z9, zb, m10_, ha, Q_BL, Q_BR, Q_SZ, Q_F2, Q_F5, Q_F9, Q_P0, Q_P1, Q_X10_⟩ hb_ hon hoff
        refine ⟨_, rfl, fun K hK => ?_⟩
        have e20 : a.tmps[20]? = some (.int .i64 ((l.length : Int) + 1)) := by rw [ha]; exact (putSel_off rfl).trans rfl
        replace ha := Aside0.mk ha
        have BL := Aside0.mk Q_BL
        have BR := Aside0.mk Q_BR
        have SZ := Aside0.mk (Q_SZ (hoff 12 (by kernel_rfl)))
        refine value_ (w1 := w'.alloc (.cells (is (zA l.length)) 3)) (v := .slice (some ⟨w'.heap.size, 0, none⟩) (l.length + 1) (l.length + 1)) (by rfl) rfl ?_ ?_
        · go_simp
        refine hK.out _ _ ⟨z2, z5, (.slice (some ⟨w'.heap.size, 0, none⟩) (l.length + 1) (l.length + 1)), zb, m10_, (by rw [ha.out]; exact putSel_upk 2 hb_ rfl rfl rfl), below_alloc BL.out _, blk_alloc BR.out _, fun _ => lt_alloc SZ.out _, fun h0_ => (Q_F2 h0_).alloc _, fun h0_ => (Q_F5 h0_).alloc _, fun _ => Ma.new SZ.out _ _ _, fun h0_ h1_ => (Q_P0 h0_ h1_).alloc _, fun h0_ => absurd ((hoff 12 (by kernel_rfl)).symm.trans h0_) (by decide), fun h0_ => absurd ((hoff 10 (by kernel_rfl)).symm.trans h0_) (by decide)⟩
      refine steps_cons ?_ ?_
      · rintro b a w' ⟨z2, z5, z9, zb, m10_, ha, Q_BL, Q_BR, Q_SZ, Q_F2, Q_F5, Q_F9, Q_P0, Q_P1, Q_X10_⟩ hb_ hon hoff
        refine ⟨_, rfl, fun K hK => ?_⟩
        have e14 : a.tmps[14]? = some (z2) := by rw [ha]; exact putSel_on (e := (2, 14, z2)) 0 rfl rfl (hon 2 (by kernel_rfl)) rfl
        have e17 : a.tmps[17]? = some (z5) := by rw [ha]; exact putSel_on (e := (5, 17, z5)) 1 rfl rfl (hon 5 (by kernel_rfl)) rfl
        have e21 : a.tmps[21]? = some (z9) := by rw [ha]; exact putSel_on (e := (9, 21, z9)) 2 rfl rfl (hon 9 (by kernel_rfl)) rfl
        replace ha := Aside0.mk ha
        have BL := Aside0.mk Q_BL
        have BR := Aside0.mk Q_BR
        have SZ := Aside0.mk (Q_SZ (hoff 12 (by kernel_rfl)))
        have F2 := Aside0.mk (Q_F2 (hon 2 (by kernel_rfl)))
        have F5 := Aside0.mk (Q_F5 (hon 5 (by kernel_rfl)))
        have F9 := Aside0.mk (Q_F9 (hon 9 (by kernel_rfl)))
        obtain ⟨g2_, q2_, i2_, k2_⟩ := F2.out
        obtain ⟨g5_, q5_, i5_, k5_⟩ := F5.out
        obtain ⟨g9_, q9_, i9_, k9_⟩ := F9.out
        subst q2_ q5_ q9_
        refine value_ (w1 := w') (v := .agg #[(.slice (some ⟨g2_, 0, none⟩) l.length l.length), (.slice (some ⟨g5_, 0, none⟩) l.length l.length), (.slice (some ⟨g9_, 0, none⟩) (l.length + 1) (l.length + 1))]) (by rfl) rfl ?_ ?_
        · go_simp
          (try simp only [i64_w])
          try rfl
        refine hK.out _ _ ⟨(.slice (some ⟨g2_, 0, none⟩) l.length l.length), (.slice (some ⟨g5_, 0, none⟩) l.length l.length), (.slice (some ⟨g9_, 0, none⟩) (l.length + 1) (l.length + 1)), zb, (.agg #[(.slice (some ⟨g2_, 0, none⟩) l.length l.length), (.slice (some ⟨g5_, 0, none⟩) l.length l.length), (.slice (some ⟨g9_, 0, none⟩) (l.length + 1) (l.length + 1))]), (by rw [ha.out]; exact putSel_upk 3 hb_ rfl rfl rfl), Q_BL, Q_BR, Q_SZ, Q_F2, Q_F5, Q_F9, Q_P0, fun h0_ => absurd ((hoff 12 (by kernel_rfl)).symm.trans h0_) (by decide), fun _ => rfl⟩
      refine steps_cons ?_ ?_
      · rintro b a w' ⟨z2, z5, z9, zb, m10_, ha, Q_BL, Q_BR, Q_SZ, Q_F2, Q_F5, Q_F9, Q_P0, Q_P1, Q_X10_⟩ hb_ hon hoff
        refine ⟨_, rfl, fun K hK => ?_⟩
        replace ha := Aside0.mk ha
        have BL := Aside0.mk Q_BL
        have BR := Aside0.mk Q_BR
        have SZ := Aside0.mk (Q_SZ (hoff 12 (by kernel_rfl)))
        refine value_ (w1 := w'.alloc (.cells #[.slice none 0 0, .slice none 0 0, .slice none 0 0] 59)) (v := PP w'.heap.size) (by rfl) rfl ?_ ?_
        · go_simp
        refine hK.out _ _ ⟨z2, z5, z9, (PP w'.heap.size), m10_, (by rw [ha.out]; exact putSel_upk 4 hb_ rfl rfl rfl), below_alloc BL.out _, blk_alloc BR.out _, fun _ => lt_alloc SZ.out _, fun h0_ => (Q_F2 h0_).alloc _, fun h0_ => (Q_F5 h0_).alloc _, fun h0_ => (Q_F9 h0_).alloc _, fun _ _ => Bx.new SZ.out _, fun h0_ => absurd ((hoff 12 (by kernel_rfl)).symm.trans h0_) (by decide), Q_X10_⟩
      refine steps_cons ?_ ?_
      · rintro b a w' ⟨z2, z5, z9, zb, m10_, ha, Q_BL, Q_BR, Q_SZ, Q_F2, Q_F5, Q_F9, Q_P0, Q_P1, Q_X10_⟩ hb_ hon hoff
        refine ⟨_, rfl, fun K hK => ?_⟩
        have e3 : a.tmps[3]? = some (zb) := by rw [ha]; exact putSel_on (e := (11, 3, zb)) 4 rfl rfl (hon 11 (by kernel_rfl)) rfl
        have e22 : a.tmps[22]? = some (m10_) := by rw [ha]; exact putSel_on (e := (10, 22, m10_)) 3 rfl rfl (hon 10 (by kernel_rfl)) rfl
        rw [Q_X10_ (hon 10 (by kernel_rfl))] at e22
        replace ha := Aside0.mk ha
        have BL := Aside0.mk Q_BL
        have BR := Aside0.mk Q_BR
        have SZ := Aside0.mk (Q_SZ hb_)
        have F2 := Aside0.mk (Q_F2 (hon 2 (by kernel_rfl)))
        have F5 := Aside0.mk (Q_F5 (hon 5 (by kernel_rfl)))
        have F9 := Aside0.mk (Q_F9 (hon 9 (by kernel_rfl)))
        have P0 := Aside0.mk (Q_P0 (hon 11 (by kernel_rfl)) hb_)
        obtain ⟨g2_, q2_, i2_, k2_⟩ := F2.out
        obtain ⟨g5_, q5_, i5_, k5_⟩ := F5.out
        obtain ⟨g9_, q9_, i9_, k9_⟩ := F9.out
        subst q2_ q5_ q9_
        obtain ⟨gb_, hz_, hg_, hc_⟩ := P0.out
        rw [hz_] at e3
        have s0_ := (blk_cell hc_ 0).trans (show _ = some (.slice none 0 0) from rfl)
        have s1_ := (blk_cell hc_ 1).trans (show _ = some (.slice none 0 0) from rfl)
        have s2_ := (blk_cell hc_ 2).trans (show _ = some (.slice none 0 0) from rfl)
        have t0_ := blk_frozen hc_ 0
        have t1_ := blk_frozen hc_ 1
        have t2_ := blk_frozen hc_ 2
        refine skip_ (w1 := ((w'.setCell ⟨gb_, 0, none⟩ (.slice (some ⟨g2_, 0, none⟩) l.length l.length)).setCell ⟨gb_, 1, none⟩ (.slice (some ⟨g5_, 0, none⟩) l.length l.length)).setCell ⟨gb_, 2, none⟩ (.slice (some ⟨g9_, 0, none⟩) (l.length + 1) (l.length + 1))) (by rfl) rfl ?_ ?_
        · go_simp
        refine hK.out _ _ ⟨(.slice (some ⟨g2_, 0, none⟩) l.length l.length), (.slice (some ⟨g5_, 0, none⟩) l.length l.length), (.slice (some ⟨g9_, 0, none⟩) (l.length + 1) (l.length + 1)), zb, m10_, (by rw [ha.out]; exact putSel_none (v := undef) rfl), below_set (below_set (below_set BL.out (Nat.le_of_lt hg_)) (Nat.le_of_lt hg_)) (Nat.le_of_lt hg_), blk_far (blk_far (blk_far BR.out (Nat.ne_of_lt hg_) _) (Nat.ne_of_lt hg_) _) (Nat.ne_of_lt hg_) _, fun h0_ => absurd ((up_self b 12).symm.trans h0_) (by decide), fun _ => F2.out.box hc_ (by decide) _ _ _, fun _ => F5.out.box hc_ (by decide) _ _ _, fun _ => F9.out.box hc_ (by decide) _ _ _, fun _ h1_ => absurd ((up_self b 12).symm.trans h1_) (by decide), fun _ => ⟨gb_, hz_, hg_, blk_put (blk_put (blk_put hc_ 0 _ rfl) 1 _ rfl) 2 _ rfl⟩, Q_X10_⟩
      exact steps_nil
    · rintro b a w' hall ⟨z2, z5, z9, zb, m10_, ha, Q_BL, Q_BR, Q_SZ, Q_F2, Q_F5, Q_F9, Q_P0, Q_P1, Q_X10_⟩
      clear BL BR SZ
      have hb2_ := hall 2 (by kernel_rfl)
      have hb5_ := hall 5 (by kernel_rfl)
      have hb9_ := hall 9 (by kernel_rfl)
      have hb10_ := hall 10 (by kernel_rfl)
      have hb11_ := hall 11 (by kernel_rfl)
      have hb12_ := hall 12 (by kernel_rfl)
      subst ha
      obtain rfl := Q_X10_ hb10_
      simp only [putSel, hb2_, hb5_, hb9_, hb10_, hb11_, hb12_, if_true, Act.put, List.setIfInBounds_toArray, List.set_cons_zero, List.set_cons_succ]
      have BL := Aside0.mk Q_BL
      clear Q_BL
      have BR := Aside0.mk Q_BR
      clear Q_BR
      clear Q_SZ
      have F2 := Aside0.mk (Q_F2 hb2_)
      clear Q_F2
      have F5 := Aside0.mk (Q_F5 hb5_)
      clear Q_F5
      have F9 := Aside0.mk (Q_F9 hb9_)
      clear Q_F9
      clear Q_P0
      have P1 := Aside0.mk (Q_P1 hb12_)
      clear Q_P1
      clear hall hb2_ hb5_ hb9_ hb10_ hb11_ hb12_
      obtain ⟨bt, e2_, ht, ct⟩ := F2.out
      obtain ⟨bl, e5_, hl, cl⟩ := F5.out
      obtain ⟨ba, e9_, ha, ca⟩ := F9.out
      obtain ⟨gb, eb_, hg, cb⟩ := P1.out
      subst e2_ e5_ e9_ eb_
      go_wp2_with fail
      go_meet
      exact ⟨gb, bt, bl, ba, rfl, ⟨⟨cb, BR.out, ct, cl, ca, hg, ht, hl, ha, by simp [zT], by simp [fA], by simp [zA], BL.out⟩⟩⟩
  case rest =>
  obtain ⟨b, bt, bl, ba, rfl, hY0⟩ := hcut
  clear hmk47 hmk47n hmk48 hwr0 BR0 BL0 SZ0
  go_upto_region 3 with (go_at_call 25; (with_reducible refine (crucibleref06_sorted.calls (4 * l.length + 4) _ _ l 0 (l.length : Int) s _ ?s1 ?s2 es.out).mono ?_); (case s1 => exact Kd.C_below hL.out hY0.out.bel); (case s2 => exact hc.out); rintro e w1 ⟨v, rfl, hR1, hb1⟩; have hY1 := Aside0.mk (hY0.out.below hb1); replace hR1 := Aside0.mk (Kd.R_mono (Kd.R_bound hR1) (fun _ hk => hk.2.1)); have hbt := Aside0.mk (blk_lt hY0.out.tt); clear hb1)
  obtain ⟨As, cs, rfl⟩ := Kd.R_slice hR1.out
  clear hY0
  generalize wc.heap.size = N at *
  go_wp2_with fail
  go_loopw [5] (fun u5 wr => ∃ (i : Nat) (tq : List Int), i ≤ l.length ∧ u5 = .int .i64 i ∧ Aside0 (Sy w wr l.length b bt bl ba tq (fA l.length) (zA l.length)) ∧ Aside0 (∀ j, j < i → tq.getD j 0 = (toV l).getD j 0) ∧ Aside0 (Kd.R (Kd.int .i64) 3 wr N (fun k => N ≤ k) (.slice As s.length cs) s)) (fun u _ => l.length - (intOf u).toNat)
  case atStart => exact ⟨0, _, Nat.zero_le _, rfl, hY1, ⟨fun j hj => by omega⟩, hR1⟩
  case round =>
    clear hY1 hR1
    obtain ⟨i, tq, hi, rfl, hY, ht, hR⟩ := hrel
    by_cases hlt : i < l.length
    · have q0 : (0 : Int) ≤ (i : Int) := by omega
      have q1 : (i : Int) < (l.length : Int) := by omega
      have ap1 := add_plain bt i
      have y0 := (blk_cell hY.out.bb 0).trans (show _ = some (.slice (some ⟨bt, 0, none⟩) l.length l.length) from rfl)
      have hct := is_cell hY.out.tt i (by rw [hY.out.lt]; exact hlt)
      have hft := blk_frozen hY.out.tt i
      have htv := Aside0.mk (toV_at l i hlt)
      have htl : Aside0 (i < tq.length) := ⟨by rw [hY.out.lt]; exact hlt⟩
      have htg := fun hp => Aside0.mk (find_tgt H.out s S.out (l.getD i z37).f2 hp (l.length + 1) (Nat.le_refl _))
      go_upto_region 7 with (fail)
      replace hY := Aside0.mk (hY.out.setT i (-1))
      replace hR := Aside0.mk (Kd.R_far hR.out (p := ⟨bt, i, none⟩) (fun k hk => by have := hbt.out; show k ≠ bt; omega) (.int .i64 (-1)))
      generalize wr.setCell ⟨bt, i, none⟩ (.int .i64 (-1)) = W at *
      clear y0 hct hft
      obtain ⟨ad, ea, c0, c1, c2, c3, c4, c5, c6⟩ := at_T37 (Kd.C_below hL.out hY.out.bel) (i : Int) (by omega) (by omega)
      subst ea
      simp only [Int.toNat_natCast, rd_L] at c0 c1 c2 c3 c4 c5 c6
      clear c0 c1 c2 c3 c4 c5
      generalize l.getD i z37 = x at *
      by_cases kp : 0 < x.f2
      · have ht2 : Aside0 (∀ j, j < i + 1 → ((tq.set i (-1)).set i (tgt l x.f2)).getD j 0 = (toV l).getD j 0) := ⟨by rw [List.set_set]; exact upto_set ht.out htl.out (by rw [htv.out, if_pos kp])⟩
        replace htg := htg kp
        clear ht htv htl
        go_upto_region 8 with (fail)
        replace kp := Aside0.mk kp
        refine start_ (n := 13) (S := fun w' => w'.cell? ⟨b, 0, none⟩ = some (.slice (some ⟨bt, 0, none⟩) l.length l.length) ∧ w'.cell? ⟨(ad.add (i * 7)).block, (ad.add (i * 7)).off + 6, none⟩ = some (.int .i64 x.f2)) (ds := [12]) #[false, false, false, false, false, false, false, false, false, false, false, false, false] (by kernel_rfl) rfl rfl (⟨(blk_cell hY.out.bb 0).trans rfl, c6⟩) (fun hHeld => ?_)
        clear c6
        replace hY := Aside0.mk (hY.out.below (below_drew (Below.refl _ _)))
        replace hR := Aside0.mk (Kd.R_drew hR.out)
        generalize W.drew = W8 at *
        refine pure_ (i := 0) (N := some 43) (v := ?_) (a' := ?_) #[true, false, false, false, false, false, false, false, false, false, false, false, false] rfl rfl (by kernel_rfl) (fun _ _ _ h => h) (Or.inl ⟨by rfl, ?_⟩) ?_ ?_
        rotate_left
        · intro w'
          go_simp
          try with_reducible rfl
        rotate_left
        · simp only [Act.put, List.setIfInBounds_toArray, List.set_cons_zero, List.set_cons_succ]
          rfl
        refine pure_ (i := 2) (N := some 45) (v := ?_) (a' := ?_) #[true, false, true, false, false, false, false, false, false, false, false, false, false] rfl rfl (by kernel_rfl) (fun _ _ _ h => h) (Or.inl ⟨by rfl, ?_⟩) ?_ ?_
        rotate_left
        · intro w'
          go_simp
          try with_reducible rfl
        rotate_left
        · simp only [Act.put, List.setIfInBounds_toArray, List.set_cons_zero, List.set_cons_succ]
          rfl
        refine pure_ (i := 3) (N := some 46) (v := ?_) (a' := ?_) #[true, false, true, true, false, false, false, false, false, false, false, false, false] rfl rfl (by kernel_rfl) (fun _ _ _ h => h) (Or.inl ⟨by rfl, ?_⟩) ?_ ?_
        rotate_left
        · intro w'
          go_simp
          try with_reducible rfl
        rotate_left
        · simp only [Act.put, List.setIfInBounds_toArray, List.set_cons_zero, List.set_cons_succ]
          rfl
        refine pure_ (i := 4) (N := some 47) (v := ?_) (a' := ?_) #[true, false, true, true, true, false, false, false, false, false, false, false, false] rfl rfl (by kernel_rfl) (fun _ _ _ h => h) (Or.inl ⟨by rfl, ?_⟩) ?_ ?_
        rotate_left
        · intro w'
          go_simp
          try with_reducible rfl
        rotate_left
        · simp only [Act.put, List.setIfInBounds_toArray, List.set_cons_zero, List.set_cons_succ]
          rfl
        refine pure_ (i := 5) (N := some 48) (v := ?_) (a' := ?_) #[true, false, true, true, true, true, false, false, false, false, false, false, false] rfl rfl (by kernel_rfl) (fun _ _ _ h => h) (Or.inl ⟨by rfl, ?_⟩) ?_ ?_
        rotate_left
        · intro w'
          go_simp
          try with_reducible rfl
        rotate_left
        · simp only [Act.put, List.setIfInBounds_toArray, List.set_cons_zero, List.set_cons_succ]
          rfl
        refine pure_ (i := 6) (N := some 49) (v := ?_) (a' := ?_) #[true, false, true, true, true, true, true, false, false, false, false, false, false] rfl rfl (by kernel_rfl) (fun _ _ _ h => h) (Or.inl ⟨by rfl, ?_⟩) ?_ ?_
        rotate_left
        · intro w'
          go_simp
          try with_reducible rfl
        rotate_left
        · simp only [Act.put, List.setIfInBounds_toArray, List.set_cons_zero, List.set_cons_succ]
          rfl
        refine pure_ (i := 7) (N := some 50) (v := ?_) (a' := ?_) #[true, false, true, true, true, true, true, true, false, false, false, false, false] rfl rfl (by kernel_rfl) (fun _ _ _ h => h) (Or.inl ⟨by rfl, ?_⟩) ?_ ?_
        rotate_left
        · intro w'
          go_simp
          try with_reducible rfl
        rotate_left
        · simp only [Act.put, List.setIfInBounds_toArray, List.set_cons_zero, List.set_cons_succ]
          rfl
        refine pure_ (i := 8) (N := some 51) (v := ?_) (a' := ?_) #[true, false, true, true, true, true, true, true, true, false, false, false, false] rfl rfl (by kernel_rfl) (fun _ _ _ h => h) (Or.inl ⟨by rfl, ?_⟩) ?_ ?_
        rotate_left
        · intro w'
          go_simp
          try with_reducible rfl
        rotate_left
        · simp only [Act.put, List.setIfInBounds_toArray, List.set_cons_zero, List.set_cons_succ]
          rfl
        refine take_ (i := 1) (N := some 44) (v := ?_) (a' := ?_) #[true, true, true, true, true, true, true, true, true, false, false, false, false] rfl rfl (by kernel_rfl) (fun _ _ _ h => h) (Or.inl ⟨by rfl, ?_⟩) hHeld ?_ ?_
        rotate_left
        · intro w' s0
          obtain ⟨s0_, s1_⟩ := s0
          go_simp
          try with_reducible rfl
        rotate_left
        · simp only [Act.put, List.setIfInBounds_toArray, List.set_cons_zero, List.set_cons_succ]
          rfl
        refine take_ (i := 9) (N := some 52) (v := ?_) (a' := ?_) #[true, true, true, true, true, true, true, true, true, true, false, false, false] rfl rfl (by kernel_rfl) (fun _ _ _ h => h) (Or.inl ⟨by rfl, ?_⟩) hHeld ?_ ?_
        rotate_left
        · intro w' s0
          obtain ⟨s0_, s1_⟩ := s0
          go_simp
          try with_reducible rfl
        rotate_left
        · simp only [Act.put, List.setIfInBounds_toArray, List.set_cons_zero, List.set_cons_succ]
          rfl
        refine one_ (i := 10) (N := some 53) #[true, true, true, true, true, true, true, true, true, true, true, false, false] rfl rfl (by kernel_rfl) (by decide) (fun K hK => ?_)
        refine goes_ Try.func26 (by kernel_rfl) rfl #[.slice (some ad) l.length c, .slice As s.length cs, .int .i64 x.f2] (by rfl) rfl rfl (by (try simp only [List.map_toArray, List.map_cons, List.map_nil]); first | done | rfl) ?_
        with_reducible refine (crucibleref06_find.calls (l.length + 1) _ _ l _ _ s x.f2 (tgt l x.f2) _ ?s1 ?s2 ?s3 ?s4 htg.out).mono ?_
        (case s1 => exact Kd.C_below hL.out hY.out.bel)
        (case s2 => exact hc.out)
        (case s3 => exact (Kd.R_reads' hR.out).2.2)
        (case s4 => exact (Kd.R_reads' hR.out).2.1)
        rintro e w' ⟨rfl, ⟨nd, rfl⟩⟩
        refine ⟨_, rfl, ?_⟩
        replace hY := Aside0.mk (hY.out.below (pw_below_drewN (Below.refl _ _) nd))
        replace hR := Aside0.mk (Kd.R_drewN hR.out nd)
        have hHeld2 := hHeld
        refine hK.out _ _ ⟨hHeld2.1, hHeld2.2⟩ (fun hHeld => ?_)
        clear hK K hHeld2
        generalize W8.drewN nd = W9 at *
        refine norm_ (a' := ?_) ?_ ?_
        rotate_left
        · simp only [Act.put, List.setIfInBounds_toArray, List.set_cons_zero, List.set_cons_succ]
          rfl
        refine pure_ (i := 11) (N := some 54) (v := ?_) (a' := ?_) #[true, true, true, true, true, true, true, true, true, true, true, true, false] rfl rfl (by kernel_rfl) (fun _ _ _ h => h) (Or.inl ⟨by rfl, ?_⟩) ?_ ?_
        rotate_left
        · intro w'
          go_simp
          try with_reducible rfl
        rotate_left
        · simp only [Act.put, List.setIfInBounds_toArray, List.set_cons_zero, List.set_cons_succ]
          rfl
        refine last_ (i := 12) (N := none) #[true, true, true, true, true, true, true, true, true, true, true, true, true] rfl rfl (by kernel_rfl) (by decide) (fun K hK => ?_)
        have hct := is_cell hY.out.tt i (by rw [hY.out.lt]; exact hlt)
        have hft := blk_frozen hY.out.tt i
        refine skip_ (w1 := W9.setCell ⟨bt, i, none⟩ (.int .i64 (tgt l x.f2))) (by rfl) rfl ?_ ?_
        · go_simp
        refine hK.out _ _ ?_
        clear hK K hct hft
        refine done_ (by kernel_rfl) ?_
        replace hY := Aside0.mk (hY.out.setT i (tgt l x.f2))
        replace hR := Aside0.mk (Kd.R_far hR.out (p := ⟨bt, i, none⟩) (fun k hk => by have := hbt.out; show k ≠ bt; omega) (.int .i64 (tgt l x.f2)))
        go_wp2_with fail
        go_roundw
        case rel => exact ⟨i + 1, _, by omega, by go_num, hY, ht2, hR⟩
        case measure => simp [intOf]; omega
      · have ht2 : Aside0 (∀ j, j < i + 1 → (tq.set i (-1)).getD j 0 = (toV l).getD j 0) := ⟨upto_set ht.out htl.out (by rw [htv.out, if_neg kp])⟩
        clear htg ht htv htl
        go_wp2_with fail
        go_roundw
        case rel => exact ⟨i + 1, _, by omega, by go_num, hY, ht2, hR⟩
        case measure => simp [intOf]; omega
    · obtain rfl : i = l.length := by omega
      have hte : tq = toV l := upto_eq (by rw [hY.out.lt, toV_len]) (fun j hj => ht.out j (by have := hY.out.lt; omega))
      subst hte
      have hs0 : Aside0 (settle l = lay l (l.length + 1) (fA l.length)) := ⟨rfl⟩
      have hn0 : Aside0 (nl (fA l.length) < l.length + 1) := ⟨by have := nl_le (fA l.length); simp only [fA, List.length_replicate] at this ⊢; omega⟩
      have hg0 : Aside0 (Gd l (fA l.length)) := ⟨fun i hi _ => by simp [fA, List.getD_eq_getElem?_getD, hi]⟩
      clear ht hR es S
      generalize zA l.length = a0 at *
      generalize fA l.length = g0 at *
      go_wp2_with fail
      go_loopg [6] (l.length + 1) (fun kq u6 wr => ∃ (kg : Nat) (m : Bool) (g : List Bool) (a : List Int), kg = kq ∧ u6 = .bool m ∧ Aside0 (Sy w wr l.length b bt bl ba (toV l) g a) ∧ Aside0 (Gd l g) ∧ Aside0 (m = true → settle l = lay l kq g ∧ nl g < kq) ∧ Aside0 (m = false → g = settle l ∧ a = ats l g))
      case atStart => exact ⟨_, true, g0, a0, rfl, rfl, hY, hg0, ⟨fun _ => ⟨hs0.out, hn0.out⟩⟩, ⟨fun h => by cases h⟩⟩
      case round =>
        clear hY hs0 hn0 hg0
        obtain ⟨kg, m, g, a, rfl, rfl, hY, hG, hm1, hm2⟩ := hrel
        have y0 := (blk_cell hY.out.bb 0).trans (show _ = some (.slice (some ⟨bt, 0, none⟩) l.length l.length) from rfl)
        have y1 := (blk_cell hY.out.bb 1).trans (show _ = some (.slice (some ⟨bl, 0, none⟩) l.length l.length) from rfl)
        have y2 := (blk_cell hY.out.bb 2).trans (show _ = some (.slice (some ⟨ba, 0, none⟩) (l.length + 1) (l.length + 1)) from rfl)
        cases m
        · obtain ⟨hg, ha⟩ := hm2.out rfl
          subst hg
          subst ha
          have r0 := (blk_cell hY.out.br 0).trans (show _ = some (.slice none 0 0) from rfl)
          have r1 := (blk_cell hY.out.br 1).trans (show _ = some (.slice none 0 0) from rfl)
          have r2 := (blk_cell hY.out.br 2).trans (show _ = some (.slice none 0 0) from rfl)
          have f0 := blk_frozen hY.out.br 0
          have f1 := blk_frozen hY.out.br 1
          have f2 := blk_frozen hY.out.br 2
          clear hm1 hm2 hG
          have nn := hY.out.ne
          have n1 : bt ≠ w.heap.size := by have := hY.out.ht; omega
          have n2 : bl ≠ w.heap.size := by have := hY.out.hl; omega
          have n3 : ba ≠ w.heap.size := by have := hY.out.ha; omega
          replace nn := Aside0.mk nn
          replace n1 := Aside0.mk n1
          replace n2 := Aside0.mk n2
          replace n3 := Aside0.mk n3
          go_wp2_with fail
          refine bodyPost_ret (results_cell_row rfl _ _ w.heap.size 59 #[.slice (some ⟨bt, 0, none⟩) l.length l.length, .slice (some ⟨bl, 0, none⟩) l.length l.length, .slice (some ⟨ba, 0, none⟩) (l.length + 1) (l.length + 1)] (0, 0) _ rfl (by refine blk_put (cs := #[.slice (some ⟨bt, 0, none⟩) l.length l.length, .slice (some ⟨bl, 0, none⟩) l.length l.length, .slice none 0 0]) ?_ 2 _ rfl; refine blk_put (cs := #[.slice (some ⟨bt, 0, none⟩) l.length l.length, .slice none 0 0, .slice none 0 0]) ?_ 1 _ rfl; refine blk_put (cs := #[.slice none 0 0, .slice none 0 0, .slice none 0 0]) ?_ 0 _ rfl; exact hY.out.br) Try.underlying59 rfl (by kernel_rfl)) rfl ?_
          exact ⟨bt, bl, ba, rfl, Nat.le_of_lt hY.out.ht, Nat.le_of_lt hY.out.hl, Nat.le_of_lt hY.out.ha, nn.out, ⟨blk_far (blk_far (blk_far hY.out.tt n1.out _) n1.out _) n1.out _⟩, ⟨blk_far (blk_far (blk_far hY.out.ll n2.out _) n2.out _) n2.out _⟩, ⟨blk_far (blk_far (blk_far hY.out.aa n3.out _) n3.out _) n3.out _⟩, ⟨below_set (below_set (below_set hY.out.bel (Nat.le_refl _)) (Nat.le_refl _)) (Nat.le_refl _)⟩⟩
        · obtain ⟨hst, hnl⟩ := hm1.out rfl
          replace hst := Aside0.mk hst
          replace hnl := Aside0.mk hnl
          clear hm1 hm2
          have hlg : Aside0 (g.length = l.length) := ⟨hY.out.lg⟩
          go_upto_region 13 with (go_at_call 31; (refine (laidR_calls hL hlen hpos hG hY).mono ?_); rintro e w1 ⟨rfl, hY1⟩; replace hY1 := Aside0.mk hY1)
          clear hY y0 y1 y2
          have hb1 : Aside0 (bl < w1.heap.size) := ⟨blk_lt hY1.out.ll⟩
          have hR1 : Aside0 (Kd.R (Kd.int .i64) 3 w1 w1.heap.size (fun k => w1.heap.size ≤ k) (.slice none 0 0) (gw l g 0)) := ⟨Kd.R_nil _ _ _ _ _⟩
          go_wp2_with fail
          go_loopw [7, 8] (fun u7 u8 wr => ∃ (i : Nat), i ≤ l.length ∧ u8 = .int .i64 i ∧ Aside0 (Below w1.heap.size w1 wr) ∧ Aside0 (Kd.R (Kd.int .i64) 3 wr w1.heap.size (fun k => w1.heap.size ≤ k) u7 (gw l g i))) (fun _ u _ => l.length - (intOf u).toNat)
          case atStart => exact ⟨0, Nat.zero_le _, rfl, ⟨Below.refl _ _⟩, hR1⟩
          case round =>
            clear hR1
            obtain ⟨i, hi, rfl, hB, hR⟩ := hrel
            by_cases hlt : i < l.length
            · have hY := Aside0.mk (hY1.out.below hB.out)
              have q0 : (0 : Int) ≤ (i : Int) := by omega
              have q1 : (i : Int) < (l.length : Int) := by omega
              have q2 : (i : Int) < (l.length : Int) + 1 := by omega
              have ap1 := add_plain bl i
              have ap2 := add_plain ba i
              have y1 := (blk_cell hY.out.bb 1).trans (show _ = some (.slice (some ⟨bl, 0, none⟩) l.length l.length) from rfl)
              have hcl := bs_cell hY.out.ll i (by rw [hY.out.lg]; exact hlt)
              obtain ⟨ad, ea, c0, c1, c2, c3, c4, c5, c6⟩ := at_T37 (Kd.C_below hL.out hY.out.bel) (i : Int) (by omega) (by omega)
              have hgw : Aside0 (gw l g (i + 1) = if farV l g i = true then gw l g i ++ [(i : Int)] else gw l g i) := ⟨rfl⟩
              have hgl := Aside0.mk (gw_len l g i)
              have hfv : Aside0 (farV l g i = (!((l.getD i z37).f2 == 0) && !(g.getD i false) && ((l.getD i z37).f1.f0 == 39 || (l.getD i z37).f1.f0 == 40) && (decide (dV l g i < -32768) || decide (32768 ≤ dV l g i)))) := ⟨rfl⟩
              have hmx := Aside0.mk (may_label _ (H.out.may i hlt))
              have hr := Aside0.mk (atV_range l g i)
              have haw := fun (hp : 0 < (l.getD i z37).f2) (wr : World) (hY : Sy w wr l.length b bt bl ba (toV l) g (ats l g)) => away_calls H.out hY i hlt hp
              subst ea
              simp only [Int.toNat_natCast, rd_L] at c0 c1 c2 c3 c4 c5 c6
              clear c0 c2 c3 c4 c5
              generalize l.getD i z37 = x at *
              generalize g.getD i false = bi at *
              by_cases k1 : x.f2 = 0
              · have f0 : farV l g i = false := by rw [hfv.out, k1]; rfl
                rw [f0] at hgw
                replace f0 := Aside0.mk f0
                clear haw
                go_wp2_with fail
                go_roundw
                case rel => exact ⟨i + 1, by omega, by go_num, hB, ⟨by rw [hgw.out]; exact hR.out⟩⟩
                case measure => simp [intOf]; omega
              · have k1' : (x.f2 == 0) = false := beq_eq_false_iff_ne.2 k1
                have kp : Aside0 (0 < x.f2) := ⟨by have := hmx.out.2.1; omega⟩
                replace k1 := Aside0.mk k1
                replace haw := haw kp.out
                clear hmx
                cases bi
                · by_cases k3 : x.f1.f0 = 39 ∨ x.f1.f0 = 40
                  · have k39 : Aside0 ((x.f1.f0 == 39 || x.f1.f0 == 40) = true) := ⟨by simpa using k3⟩
                    rw [k39.out, k1'] at hfv
                    rcases k3 with k3 | k3
                    · have e1 : (x.f1.f0 != 39) = false := by rw [k3]; rfl
                      replace k3 := Aside0.mk k3
                      go_upto_region 19 with (fail)
                      have hca := is_cell hY.out.aa i (by rw [hY.out.la]; omega)
                      rw [ats_at l g i (by omega)] at hca
                      have hw1 : IntKind.i64.wrap (atV l g i + 1) = atV l g i + 1 := IntWalk.i64_in _ (by have := hr.out; omega)
                      clear y1 hcl c1 c6
                      refine start_ (n := 10) (S := fun w' => w'.cell? ⟨b, 0, none⟩ = some (.slice (some ⟨bt, 0, none⟩) l.length l.length) ∧ w'.cell? ⟨b, 1, none⟩ = some (.slice (some ⟨bl, 0, none⟩) l.length l.length) ∧ w'.cell? ⟨b, 2, none⟩ = some (.slice (some ⟨ba, 0, none⟩) (l.length + 1) (l.length + 1)) ∧ w'.cell? ⟨ba, i, none⟩ = some (.int .i64 (atV l g i))) (ds := []) #[false, false, false, false, false, false, false, false, false, false] (by kernel_rfl) rfl rfl (⟨(blk_cell hY.out.bb 0).trans rfl, (blk_cell hY.out.bb 1).trans rfl, (blk_cell hY.out.bb 2).trans rfl, hca⟩) (fun hHeld => ?_)
                      clear hca
                      replace hY := Aside0.mk (hY.out.below (below_drew (Below.refl _ _)))
                      replace hR := Aside0.mk (Kd.R_drew hR.out)
                      replace hB : Aside0 (Below w1.heap.size w1 wr.drew) := ⟨below_drew hB.out⟩
                      generalize wr.drew = W8 at *
                      refine pure_ (i := 1) (N := some 93) (v := ?_) (a' := ?_) #[false, true, false, false, false, false, false, false, false, false] rfl rfl (by kernel_rfl) (fun _ _ _ h => h) (Or.inl ⟨by rfl, ?_⟩) ?_ ?_
                      rotate_left
                      · intro w'
                        go_simp
                        try with_reducible rfl
                      rotate_left
                      · simp only [Act.put, List.setIfInBounds_toArray, List.set_cons_zero, List.set_cons_succ]
                        rfl
                      refine pure_ (i := 2) (N := some 94) (v := ?_) (a' := ?_) #[false, true, true, false, false, false, false, false, false, false] rfl rfl (by kernel_rfl) (fun _ _ _ h => h) (Or.inl ⟨by rfl, ?_⟩) ?_ ?_
                      rotate_left
                      · intro w'
                        go_simp
                        try with_reducible rfl
                      rotate_left
                      · simp only [Act.put, List.setIfInBounds_toArray, List.set_cons_zero, List.set_cons_succ]
                        rfl
                      refine pure_ (i := 4) (N := some 96) (v := ?_) (a' := ?_) #[false, true, true, false, true, false, false, false, false, false] rfl rfl (by kernel_rfl) (fun _ _ _ h => h) (Or.inl ⟨by rfl, ?_⟩) ?_ ?_
                      rotate_left
                      · intro w'
                        go_simp
                        try with_reducible rfl
                      rotate_left
                      · simp only [Act.put, List.setIfInBounds_toArray, List.set_cons_zero, List.set_cons_succ]
                        rfl
                      refine take_ (i := 0) (N := some 92) (v := ?_) (a' := ?_) #[true, true, true, false, true, false, false, false, false, false] rfl rfl (by kernel_rfl) (fun _ _ _ h => h) (Or.inl ⟨by rfl, ?_⟩) hHeld ?_ ?_
                      rotate_left
                      · intro w' s0
                        obtain ⟨s0_, s1_, s2_, s3_⟩ := s0
                        go_simp
                        try with_reducible rfl
                      rotate_left
                      · simp only [Act.put, List.setIfInBounds_toArray, List.set_cons_zero, List.set_cons_succ]
                        rfl
                      refine take_ (i := 3) (N := some 95) (v := ?_) (a' := ?_) #[true, true, true, true, true, false, false, false, false, false] rfl rfl (by kernel_rfl) (fun _ _ _ h => h) (Or.inl ⟨by rfl, ?_⟩) hHeld ?_ ?_
                      rotate_left
                      · intro w' s0
                        obtain ⟨s0_, s1_, s2_, s3_⟩ := s0
                        go_simp
                        try with_reducible rfl
                      rotate_left
                      · simp only [Act.put, List.setIfInBounds_toArray, List.set_cons_zero, List.set_cons_succ]
                        rfl
                      refine pure_ (i := 5) (N := some 97) (v := ?_) (a' := ?_) #[true, true, true, true, true, true, false, false, false, false] rfl rfl (by kernel_rfl) (fun _ _ _ h => h) (Or.inl ⟨by rfl, ?_⟩) ?_ ?_
                      rotate_left
                      · intro w'
                        go_simp
                        try with_reducible rfl
                      rotate_left
                      · simp only [Act.put, List.setIfInBounds_toArray, List.set_cons_zero, List.set_cons_succ]
                        rfl
                      refine take_ (i := 6) (N := some 98) (v := ?_) (a' := ?_) #[true, true, true, true, true, true, true, false, false, false] rfl rfl (by kernel_rfl) (fun _ _ _ h => h) (Or.inl ⟨by rfl, ?_⟩) hHeld ?_ ?_
                      rotate_left
                      · intro w' s0
                        obtain ⟨s0_, s1_, s2_, s3_⟩ := s0
                        go_simp
                        try with_reducible rfl
                      rotate_left
                      · simp only [Act.put, List.setIfInBounds_toArray, List.set_cons_zero, List.set_cons_succ]
                        rfl
                      refine pure_ (i := 7) (N := some 99) (v := ?_) (a' := ?_) #[true, true, true, true, true, true, true, true, false, false] rfl rfl (by kernel_rfl) (fun _ _ _ h => h) (Or.inl ⟨by rfl, ?_⟩) ?_ ?_
                      rotate_left
                      · intro w'
                        go_simp
                        try with_reducible rfl
                      rotate_left
                      · simp only [Act.put, List.setIfInBounds_toArray, List.set_cons_zero, List.set_cons_succ]
                        rfl
                      refine one_ (i := 8) (N := some 100) #[true, true, true, true, true, true, true, true, true, false] rfl rfl (by kernel_rfl) (by decide) (fun K hK => ?_)
                      refine goes_ Try.func22 (by kernel_rfl) rfl #[yA l.length bt bl ba, .int .i64 (i : Int), .int .i64 (atV l g i + 1)] (by rfl) rfl rfl (by (try simp only [List.map_toArray, List.map_cons, List.map_nil]); first | done | rfl) ?_
                      with_reducible refine (haw W8 hY.out).mono ?_
                      rintro e w' ⟨rfl, hb⟩
                      refine ⟨_, rfl, ?_⟩
                      replace hY := Aside0.mk (hY.out.below hb)
                      replace hR := Aside0.mk (Kd.R_below hR.out hb)
                      replace hB := Aside0.mk (below_step hB.out hb)
                      have hca : w'.cell? ⟨ba, i, none⟩ = some (.int .i64 (atV l g i)) := (hb.cell (World.block_lt_of_cell? _ _ hHeld.2.2.2)).trans hHeld.2.2.2
                      refine hK.out _ _ ⟨(blk_cell hY.out.bb 0).trans rfl, (blk_cell hY.out.bb 1).trans rfl, (blk_cell hY.out.bb 2).trans rfl, hca⟩ (fun hHeld => ?_)
                      clear hK K hb hca
                      refine norm_ (a' := ?_) ?_ ?_
                      rotate_left
                      · simp only [Act.put, List.setIfInBounds_toArray, List.set_cons_zero, List.set_cons_succ]
                        rfl
                      refine pure_ (i := 9) (N := some 10) (v := ?_) (a' := ?_) #[true, true, true, true, true, true, true, true, true, true] rfl rfl (by kernel_rfl) (fun _ _ _ h => h) (Or.inl ⟨by rfl, ?_⟩) ?_ ?_
                      rotate_left
                      · intro w'
                        go_simp
                        try with_reducible rfl
                      rotate_left
                      · simp only [Act.put, List.setIfInBounds_toArray, List.set_cons_zero, List.set_cons_succ]
                        rfl
                      refine done_ (by kernel_rfl) ?_
                      clear haw hw1
                      generalize dV l g i = d at *
                      clear hHeld
                      by_cases d1 : d < -32768
                      · have f1 : farV l g i = true := by rw [hfv.out]; simp only [Bool.not_false, Bool.true_and, Bool.or_eq_true, decide_eq_true_eq]; omega
                        rw [f1, if_pos rfl] at hgw
                        replace f1 := Aside0.mk f1
                        go_wp2_with (at_builtin; (refine Kd.R_append (Kd.int .i64) (w0 := w1) w1.heap.size rfl (.tmp 107) (.tmp 109) 47 3 (.int .i64 0) 8 rfl Try.underlying47 info3 rfl (by decide) (by omega) u7 (gw l g i) (i : Int) [.int .i64 i] (fun k => w1.heap.size ≤ k) (fun _ => False) rfl rfl ?aP (fun _ hk => hk.elim) ?aF ?aO ?aB ?aS ?aL ?_; (case aP => exact rfl); (case aB => exact hB.out); (case aF => exact fun k hk => Nat.le_trans (below_size hB.out) hk); (case aO => exact hR.out); (case aS => exact below_size hB.out); (case aL => have := hgl.out; omega); intro v1 w2 ho hb hg hat; replace ho := Aside0.mk ho; replace hb := Aside0.mk hb; clear hg hat))
                        go_roundw
                        case rel => exact ⟨i + 1, by omega, by go_num, hb, ⟨by rw [hgw.out]; exact ho.out⟩⟩
                        case measure => simp [intOf]; omega
                      · by_cases d2 : 32767 < d
                        · have f1 : farV l g i = true := by rw [hfv.out]; simp only [Bool.not_false, Bool.true_and, Bool.or_eq_true, decide_eq_true_eq]; omega
                          rw [f1, if_pos rfl] at hgw
                          replace f1 := Aside0.mk f1
                          go_wp2_with (at_builtin; (refine Kd.R_append (Kd.int .i64) (w0 := w1) w1.heap.size rfl (.tmp 107) (.tmp 109) 47 3 (.int .i64 0) 8 rfl Try.underlying47 info3 rfl (by decide) (by omega) u7 (gw l g i) (i : Int) [.int .i64 i] (fun k => w1.heap.size ≤ k) (fun _ => False) rfl rfl ?aP (fun _ hk => hk.elim) ?aF ?aO ?aB ?aS ?aL ?_; (case aP => exact rfl); (case aB => exact hB.out); (case aF => exact fun k hk => Nat.le_trans (below_size hB.out) hk); (case aO => exact hR.out); (case aS => exact below_size hB.out); (case aL => have := hgl.out; omega); intro v1 w2 ho hb hg hat; replace ho := Aside0.mk ho; replace hb := Aside0.mk hb; clear hg hat))
                          go_roundw
                          case rel => exact ⟨i + 1, by omega, by go_num, hb, ⟨by rw [hgw.out]; exact ho.out⟩⟩
                          case measure => simp [intOf]; omega
                        · have f1 : farV l g i = false := by rw [hfv.out]; simp only [Bool.not_false, Bool.true_and, Bool.or_eq_false_iff, decide_eq_false_iff_not]; omega
                          rw [f1] at hgw
                          replace f1 := Aside0.mk f1
                          go_wp2_with fail
                          go_roundw
                          case rel => exact ⟨i + 1, by omega, by go_num, hB, ⟨by rw [hgw.out]; exact hR.out⟩⟩
                          case measure => simp [intOf]; omega
                    · have e1 : (x.f1.f0 != 39) = true := by rw [k3]; rfl
                      have e2 : (x.f1.f0 != 40) = false := by rw [k3]; rfl
                      replace k3 := Aside0.mk k3
                      go_upto_region 19 with (fail)
                      have hca := is_cell hY.out.aa i (by rw [hY.out.la]; omega)
                      rw [ats_at l g i (by omega)] at hca
                      have hw1 : IntKind.i64.wrap (atV l g i + 1) = atV l g i + 1 := IntWalk.i64_in _ (by have := hr.out; omega)
                      clear y1 hcl c1 c6
                      refine start_ (n := 10) (S := fun w' => w'.cell? ⟨b, 0, none⟩ = some (.slice (some ⟨bt, 0, none⟩) l.length l.length) ∧ w'.cell? ⟨b, 1, none⟩ = some (.slice (some ⟨bl, 0, none⟩) l.length l.length) ∧ w'.cell? ⟨b, 2, none⟩ = some (.slice (some ⟨ba, 0, none⟩) (l.length + 1) (l.length + 1)) ∧ w'.cell? ⟨ba, i, none⟩ = some (.int .i64 (atV l g i))) (ds := []) #[false, false, false, false, false, false, false, false, false, false] (by kernel_rfl) rfl rfl (⟨(blk_cell hY.out.bb 0).trans rfl, (blk_cell hY.out.bb 1).trans rfl, (blk_cell hY.out.bb 2).trans rfl, hca⟩) (fun hHeld => ?_)
                      clear hca
                      replace hY := Aside0.mk (hY.out.below (below_drew (Below.refl _ _)))
                      replace hR := Aside0.mk (Kd.R_drew hR.out)
                      replace hB : Aside0 (Below w1.heap.size w1 wr.drew) := ⟨below_drew hB.out⟩
                      generalize wr.drew = W8 at *
                      refine pure_ (i := 1) (N := some 93) (v := ?_) (a' := ?_) #[false, true, false, false, false, false, false, false, false, false] rfl rfl (by kernel_rfl) (fun _ _ _ h => h) (Or.inl ⟨by rfl, ?_⟩) ?_ ?_
                      rotate_left
                      · intro w'
                        go_simp
                        try with_reducible rfl
                      rotate_left
                      · simp only [Act.put, List.setIfInBounds_toArray, List.set_cons_zero, List.set_cons_succ]
                        rfl
                      refine pure_ (i := 2) (N := some 94) (v := ?_) (a' := ?_) #[false, true, true, false, false, false, false, false, false, false] rfl rfl (by kernel_rfl) (fun _ _ _ h => h) (Or.inl ⟨by rfl, ?_⟩) ?_ ?_
                      rotate_left
                      · intro w'
                        go_simp
                        try with_reducible rfl
                      rotate_left
                      · simp only [Act.put, List.setIfInBounds_toArray, List.set_cons_zero, List.set_cons_succ]
                        rfl
                      refine pure_ (i := 4) (N := some 96) (v := ?_) (a' := ?_) #[false, true, true, false, true, false, false, false, false, false] rfl rfl (by kernel_rfl) (fun _ _ _ h => h) (Or.inl ⟨by rfl, ?_⟩) ?_ ?_
                      rotate_left
                      · intro w'
                        go_simp
                        try with_reducible rfl
                      rotate_left
                      · simp only [Act.put, List.setIfInBounds_toArray, List.set_cons_zero, List.set_cons_succ]
                        rfl
                      refine take_ (i := 0) (N := some 92) (v := ?_) (a' := ?_) #[true, true, true, false, true, false, false, false, false, false] rfl rfl (by kernel_rfl) (fun _ _ _ h => h) (Or.inl ⟨by rfl, ?_⟩) hHeld ?_ ?_
                      rotate_left
                      · intro w' s0
                        obtain ⟨s0_, s1_, s2_, s3_⟩ := s0
                        go_simp
                        try with_reducible rfl
                      rotate_left
                      · simp only [Act.put, List.setIfInBounds_toArray, List.set_cons_zero, List.set_cons_succ]
                        rfl
                      refine take_ (i := 3) (N := some 95) (v := ?_) (a' := ?_) #[true, true, true, true, true, false, false, false, false, false] rfl rfl (by kernel_rfl) (fun _ _ _ h => h) (Or.inl ⟨by rfl, ?_⟩) hHeld ?_ ?_
                      rotate_left
                      · intro w' s0
                        obtain ⟨s0_, s1_, s2_, s3_⟩ := s0
                        go_simp
                        try with_reducible rfl
                      rotate_left
                      · simp only [Act.put, List.setIfInBounds_toArray, List.set_cons_zero, List.set_cons_succ]
                        rfl
                      refine pure_ (i := 5) (N := some 97) (v := ?_) (a' := ?_) #[true, true, true, true, true, true, false, false, false, false] rfl rfl (by kernel_rfl) (fun _ _ _ h => h) (Or.inl ⟨by rfl, ?_⟩) ?_ ?_
                      rotate_left
                      · intro w'
                        go_simp
                        try with_reducible rfl
                      rotate_left
                      · simp only [Act.put, List.setIfInBounds_toArray, List.set_cons_zero, List.set_cons_succ]
                        rfl
                      refine take_ (i := 6) (N := some 98) (v := ?_) (a' := ?_) #[true, true, true, true, true, true, true, false, false, false] rfl rfl (by kernel_rfl) (fun _ _ _ h => h) (Or.inl ⟨by rfl, ?_⟩) hHeld ?_ ?_
                      rotate_left
                      · intro w' s0
                        obtain ⟨s0_, s1_, s2_, s3_⟩ := s0
                        go_simp
                        try with_reducible rfl
                      rotate_left
                      · simp only [Act.put, List.setIfInBounds_toArray, List.set_cons_zero, List.set_cons_succ]
                        rfl
                      refine pure_ (i := 7) (N := some 99) (v := ?_) (a' := ?_) #[true, true, true, true, true, true, true, true, false, false] rfl rfl (by kernel_rfl) (fun _ _ _ h => h) (Or.inl ⟨by rfl, ?_⟩) ?_ ?_
                      rotate_left
                      · intro w'
                        go_simp
                        try with_reducible rfl
                      rotate_left
                      · simp only [Act.put, List.setIfInBounds_toArray, List.set_cons_zero, List.set_cons_succ]
                        rfl
                      refine one_ (i := 8) (N := some 100) #[true, true, true, true, true, true, true, true, true, false] rfl rfl (by kernel_rfl) (by decide) (fun K hK => ?_)
                      refine goes_ Try.func22 (by kernel_rfl) rfl #[yA l.length bt bl ba, .int .i64 (i : Int), .int .i64 (atV l g i + 1)] (by rfl) rfl rfl (by (try simp only [List.map_toArray, List.map_cons, List.map_nil]); first | done | rfl) ?_
                      with_reducible refine (haw W8 hY.out).mono ?_
                      rintro e w' ⟨rfl, hb⟩
                      refine ⟨_, rfl, ?_⟩
                      replace hY := Aside0.mk (hY.out.below hb)
                      replace hR := Aside0.mk (Kd.R_below hR.out hb)
                      replace hB := Aside0.mk (below_step hB.out hb)
                      have hca : w'.cell? ⟨ba, i, none⟩ = some (.int .i64 (atV l g i)) := (hb.cell (World.block_lt_of_cell? _ _ hHeld.2.2.2)).trans hHeld.2.2.2
                      refine hK.out _ _ ⟨(blk_cell hY.out.bb 0).trans rfl, (blk_cell hY.out.bb 1).trans rfl, (blk_cell hY.out.bb 2).trans rfl, hca⟩ (fun hHeld => ?_)
                      clear hK K hb hca
                      refine norm_ (a' := ?_) ?_ ?_
                      rotate_left
                      · simp only [Act.put, List.setIfInBounds_toArray, List.set_cons_zero, List.set_cons_succ]
                        rfl
                      refine pure_ (i := 9) (N := some 10) (v := ?_) (a' := ?_) #[true, true, true, true, true, true, true, true, true, true] rfl rfl (by kernel_rfl) (fun _ _ _ h => h) (Or.inl ⟨by rfl, ?_⟩) ?_ ?_
                      rotate_left
                      · intro w'
                        go_simp
                        try with_reducible rfl
                      rotate_left
                      · simp only [Act.put, List.setIfInBounds_toArray, List.set_cons_zero, List.set_cons_succ]
                        rfl
                      refine done_ (by kernel_rfl) ?_
                      clear haw hw1
                      generalize dV l g i = d at *
                      clear hHeld
                      by_cases d1 : d < -32768
                      · have f1 : farV l g i = true := by rw [hfv.out]; simp only [Bool.not_false, Bool.true_and, Bool.or_eq_true, decide_eq_true_eq]; omega
                        rw [f1, if_pos rfl] at hgw
                        replace f1 := Aside0.mk f1
                        go_wp2_with (at_builtin; (refine Kd.R_append (Kd.int .i64) (w0 := w1) w1.heap.size rfl (.tmp 107) (.tmp 109) 47 3 (.int .i64 0) 8 rfl Try.underlying47 info3 rfl (by decide) (by omega) u7 (gw l g i) (i : Int) [.int .i64 i] (fun k => w1.heap.size ≤ k) (fun _ => False) rfl rfl ?aP (fun _ hk => hk.elim) ?aF ?aO ?aB ?aS ?aL ?_; (case aP => exact rfl); (case aB => exact hB.out); (case aF => exact fun k hk => Nat.le_trans (below_size hB.out) hk); (case aO => exact hR.out); (case aS => exact below_size hB.out); (case aL => have := hgl.out; omega); intro v1 w2 ho hb hg hat; replace ho := Aside0.mk ho; replace hb := Aside0.mk hb; clear hg hat))
                        go_roundw
                        case rel => exact ⟨i + 1, by omega, by go_num, hb, ⟨by rw [hgw.out]; exact ho.out⟩⟩
                        case measure => simp [intOf]; omega
                      · by_cases d2 : 32767 < d
                        · have f1 : farV l g i = true := by rw [hfv.out]; simp only [Bool.not_false, Bool.true_and, Bool.or_eq_true, decide_eq_true_eq]; omega
                          rw [f1, if_pos rfl] at hgw
                          replace f1 := Aside0.mk f1
                          go_wp2_with (at_builtin; (refine Kd.R_append (Kd.int .i64) (w0 := w1) w1.heap.size rfl (.tmp 107) (.tmp 109) 47 3 (.int .i64 0) 8 rfl Try.underlying47 info3 rfl (by decide) (by omega) u7 (gw l g i) (i : Int) [.int .i64 i] (fun k => w1.heap.size ≤ k) (fun _ => False) rfl rfl ?aP (fun _ hk => hk.elim) ?aF ?aO ?aB ?aS ?aL ?_; (case aP => exact rfl); (case aB => exact hB.out); (case aF => exact fun k hk => Nat.le_trans (below_size hB.out) hk); (case aO => exact hR.out); (case aS => exact below_size hB.out); (case aL => have := hgl.out; omega); intro v1 w2 ho hb hg hat; replace ho := Aside0.mk ho; replace hb := Aside0.mk hb; clear hg hat))
                          go_roundw
                          case rel => exact ⟨i + 1, by omega, by go_num, hb, ⟨by rw [hgw.out]; exact ho.out⟩⟩
                          case measure => simp [intOf]; omega
                        · have f1 : farV l g i = false := by rw [hfv.out]; simp only [Bool.not_false, Bool.true_and, Bool.or_eq_false_iff, decide_eq_false_iff_not]; omega
                          rw [f1] at hgw
                          replace f1 := Aside0.mk f1
                          go_wp2_with fail
                          go_roundw
                          case rel => exact ⟨i + 1, by omega, by go_num, hB, ⟨by rw [hgw.out]; exact hR.out⟩⟩
                          case measure => simp [intOf]; omega
                  · have k39 : Aside0 ((x.f1.f0 == 39 || x.f1.f0 == 40) = false) := ⟨by rw [Bool.or_eq_false_iff]; exact ⟨beq_eq_false_iff_ne.2 fun h => k3 (.inl h), beq_eq_false_iff_ne.2 fun h => k3 (.inr h)⟩⟩
                    have e1 : (x.f1.f0 != 39) = true := by simpa using fun h => k3 (.inl h)
                    have e2 : (x.f1.f0 != 40) = true := by simpa using fun h => k3 (.inr h)
                    have f0 : farV l g i = false := by rw [hfv.out, k39.out]; simp
                    rw [f0] at hgw
                    replace f0 := Aside0.mk f0
                    replace k3 := Aside0.mk k3
                    clear haw
                    go_wp2_with fail
                    go_roundw
                    case rel => exact ⟨i + 1, by omega, by go_num, hB, ⟨by rw [hgw.out]; exact hR.out⟩⟩
                    case measure => simp [intOf]; omega
                · have f0 : farV l g i = false := by rw [hfv.out]; simp
                  rw [f0] at hgw
                  replace f0 := Aside0.mk f0
                  clear haw
                  go_wp2_with fail
                  go_roundw
                  case rel => exact ⟨i + 1, by omega, by go_num, hB, ⟨by rw [hgw.out]; exact hR.out⟩⟩
                  case measure => simp [intOf]; omega
            · obtain rfl : i = l.length := by omega
              have hY := Aside0.mk (hY1.out.below hB.out)
              have hgl := Aside0.mk (gw_len l g l.length)
              have hgm := Aside0.mk (gw_mem l g l.length)
              have hge := Aside0.mk (stL_gw l g l.length)
              have htv := Aside0.mk (gw_tv l g l.length)
              have hst2 : Aside0 (lay l kg g = if tv l g l.length = true then lay l (kg - 1) (gr l g l.length) else g) := ⟨by obtain ⟨k, rfl⟩ : ∃ k, kg = k + 1 := ⟨kg - 1, by have := hnl.out; omega⟩; rfl⟩
              have hgn := Aside0.mk (gr_nl l g hlg.out l.length (Nat.le_refl _))
              have hgg := Aside0.mk (gr_none l g l.length)
              have hGr := Aside0.mk (Gd.gr H.out hG.out l.length (Nat.le_refl _))
              obtain ⟨Ag, cg, rfl⟩ := Kd.R_slice hR.out
              have hg0 : Aside0 (Sy w wr l.length b bt bl ba (toV l) (stL g ((gw l g l.length).take 0)) (ats l g)) := hY
              clear hB hY1 hY
              generalize w1.heap.size = N1 at *
              generalize gw l g l.length = xs at *
              go_wp2_with fail
              go_loopw [6, 11] (fun u6 u11 wr => ∃ (q : Nat), q ≤ xs.length ∧ u6 = .bool (decide (0 < q)) ∧ u11 = .int .i64 q ∧ Aside0 (Sy w wr l.length b bt bl ba (toV l) (stL g (xs.take q)) (ats l g)) ∧ Aside0 (Kd.R (Kd.int .i64) 3 wr N1 (fun k => N1 ≤ k) (.slice Ag xs.length cg) xs)) (fun _ u _ => xs.length - (intOf u).toNat)
              case atStart => exact ⟨0, Nat.zero_le _, rfl, rfl, hg0, hR⟩
              case round =>
                clear hg0 hR
                obtain ⟨q, hq, rfl, rfl, hY, hR⟩ := hrel
                have hqb : Aside0 (q ≤ 262144) := ⟨by have := hgl.out; omega⟩
                by_cases hlt : q < xs.length
                · have p0 : (0 : Int) ≤ (q : Int) := by omega
                  have p1 : (q : Int) < (xs.length : Int) := by omega
                  have hwq : IntKind.i64.wrap ((q : Int) + 1) = (q : Int) + 1 := IntWalk.i64_in _ (by have := hqb.out; omega)
                  have hsn := Aside0.mk (stL_snoc g xs q hlt)
                  have hmm := hgm.out _ (getD_mem xs 0 q hlt)
                  obtain ⟨ag, eg, hcg⟩ := Kd.at_int (Kd.R_reads' hR.out).2.2 (q : Int) p0 p1
                  subst eg
                  rw [rd_n, Int.toNat_natCast] at hcg
                  obtain ⟨gx, hgx⟩ : ∃ gx : Nat, xs.getD q 0 = (gx : Int) := Int.eq_ofNat_of_zero_le hmm.1
                  rw [hgx] at hcg hsn hmm
                  rw [Int.toNat_natCast] at hsn
                  obtain ⟨q0, q1⟩ := hmm
                  have ap1 := add_plain bl gx
                  have y1 := (blk_cell hY.out.bb 1).trans (show _ = some (.slice (some ⟨bl, 0, none⟩) l.length l.length) from rfl)
                  replace hgx := Aside0.mk hgx
                  go_upto_region 25 with (fail)
                  refine start_ (n := 8) (S := fun w' => w'.cell? ⟨b, 1, none⟩ = some (.slice (some ⟨bl, 0, none⟩) l.length l.length) ∧ w'.cell? (ag.add q) = some (.int .i64 (gx : Int))) (ds := [7]) #[false, false, false, false, false, false, false, false] (by kernel_rfl) rfl rfl (⟨y1, hcg⟩) (fun hHeld => ?_)
                  clear y1 hcg
                  replace hY := Aside0.mk (hY.out.below (below_drew (Below.refl _ _)))
                  replace hR := Aside0.mk (Kd.R_drew hR.out)
                  generalize wr.drew = W8 at *
                  refine pure_ (i := 0) (N := some 117) (v := ?_) (a' := ?_) #[true, false, false, false, false, false, false, false] rfl rfl (by kernel_rfl) (fun _ _ _ h => h) (Or.inl ⟨by rfl, ?_⟩) ?_ ?_
                  rotate_left
                  · intro w'
                    go_simp
                    try with_reducible rfl
                  rotate_left
                  · simp only [Act.put, List.setIfInBounds_toArray, List.set_cons_zero, List.set_cons_succ]
                    rfl
                  refine pure_ (i := 2) (N := some 119) (v := ?_) (a' := ?_) #[true, false, true, false, false, false, false, false] rfl rfl (by kernel_rfl) (fun _ _ _ h => h) (Or.inl ⟨by rfl, ?_⟩) ?_ ?_
                  rotate_left
                  · intro w'
                    go_simp
                    try with_reducible rfl
                  rotate_left
                  · simp only [Act.put, List.setIfInBounds_toArray, List.set_cons_zero, List.set_cons_succ]
                    rfl
                  refine pure_ (i := 3) (N := some 120) (v := ?_) (a' := ?_) #[true, false, true, true, false, false, false, false] rfl rfl (by kernel_rfl) (fun _ _ _ h => h) (Or.inl ⟨by rfl, ?_⟩) ?_ ?_
                  rotate_left
                  · intro w'
                    go_simp
                    try with_reducible rfl
                  rotate_left
                  · simp only [Act.put, List.setIfInBounds_toArray, List.set_cons_zero, List.set_cons_succ]
                    rfl
                  refine pure_ (i := 4) (N := some 121) (v := ?_) (a' := ?_) #[true, false, true, true, true, false, false, false] rfl rfl (by kernel_rfl) (fun _ _ _ h => h) (Or.inl ⟨by rfl, ?_⟩) ?_ ?_
                  rotate_left
                  · intro w'
                    go_simp
                    try with_reducible rfl
                  rotate_left
                  · simp only [Act.put, List.setIfInBounds_toArray, List.set_cons_zero, List.set_cons_succ]
                    rfl
                  refine take_ (i := 1) (N := some 118) (v := ?_) (a' := ?_) #[true, true, true, true, true, false, false, false] rfl rfl (by kernel_rfl) (fun _ _ _ h => h) (Or.inl ⟨by rfl, ?_⟩) hHeld ?_ ?_
                  rotate_left
                  · intro w' s0
                    obtain ⟨s0_, s1_⟩ := s0
                    go_simp
                    try with_reducible rfl
                  rotate_left
                  · simp only [Act.put, List.setIfInBounds_toArray, List.set_cons_zero, List.set_cons_succ]
                    rfl
                  refine take_ (i := 5) (N := some 122) (v := ?_) (a' := ?_) #[true, true, true, true, true, true, false, false] rfl rfl (by kernel_rfl) (fun _ _ _ h => h) (Or.inl ⟨by rfl, ?_⟩) hHeld ?_ ?_
                  rotate_left
                  · intro w' s0
                    obtain ⟨s0_, s1_⟩ := s0
                    go_simp
                    try with_reducible rfl
                  rotate_left
                  · simp only [Act.put, List.setIfInBounds_toArray, List.set_cons_zero, List.set_cons_succ]
                    rfl
                  refine pure_ (i := 6) (N := some 123) (v := ?_) (a' := ?_) #[true, true, true, true, true, true, true, false] rfl rfl (by kernel_rfl) (fun _ _ _ h => h) (Or.inl ⟨by rfl, ?_⟩) ?_ ?_
                  rotate_left
                  · intro w'
                    go_simp
                    try with_reducible rfl
                  rotate_left
                  · simp only [Act.put, List.setIfInBounds_toArray, List.set_cons_zero, List.set_cons_succ]
                    rfl
                  refine last_ (i := 7) (N := none) #[true, true, true, true, true, true, true, true] rfl rfl (by kernel_rfl) (by decide) (fun K hK => ?_)
                  have hct := bs_cell hY.out.ll gx (by rw [hY.out.lg]; omega)
                  have hft := blk_frozen hY.out.ll gx
                  refine skip_ (w1 := W8.setCell ⟨bl, gx, none⟩ (.bool true)) (by rfl) rfl ?_ ?_
                  · go_simp
                  refine hK.out _ _ ?_
                  clear hK K hct hft
                  refine done_ (by kernel_rfl) ?_
                  replace hY := Aside0.mk (hY.out.setL gx true)
                  rw [← hsn.out] at hY
                  replace hR := Aside0.mk (Kd.R_far hR.out (p := ⟨bl, gx, none⟩) (fun k hk => by have := hb1.out; show k ≠ bl; omega) (.bool true))
                  go_wp2_with fail
                  go_roundw
                  case rel => exact ⟨q + 1, by omega, by rw [decide_eq_true (by omega : 0 < q + 1)], by go_num, hY, hR⟩
                  case measure => simp [intOf]; omega
                · obtain rfl : q = xs.length := by omega
                  rw [List.take_length, hge.out] at hY
                  rw [← htv.out]
                  clear hR hgm
                  cases hv : tv l g l.length
                  · have hgg2 := Aside0.mk (hgg.out hv)
                    have hse : Aside0 (settle l = g) := ⟨by rw [hst.out, hst2.out, hv]; rfl⟩
                    rw [hgg2.out] at hY
                    replace hv := Aside0.mk hv
                    go_wp2_with fail
                    go_roundg (kg - 1)
                    case measure => have := hnl.out; omega
                    case rel => exact ⟨_, false, _, _, rfl, rfl, hY, hG, ⟨fun h => by cases h⟩, ⟨fun _ => ⟨hse.out.symm, rfl⟩⟩⟩
                  · have hsn : Aside0 (settle l = lay l (kg - 1) (gr l g l.length)) := ⟨by rw [hst.out, hst2.out, hv]; rfl⟩
                    have hnn : Aside0 (nl (gr l g l.length) < kg - 1) := ⟨by have := hgn.out.2 hv; have := hnl.out; omega⟩
                    replace hv := Aside0.mk hv
                    go_wp2_with fail
                    go_roundg (kg - 1)
                    case measure => have := hnl.out; omega
                    case rel => exact ⟨_, true, _, _, rfl, rfl, hY, hGr, ⟨fun _ => ⟨hsn.out, hnn.out⟩⟩, ⟨fun h => by cases h⟩⟩
end Go.Proofs.Ytdhmnjoceeolcaa.Asm
end
section
namespace Go.Proofs.Ytdhmnjoceeolcaa.GF
open Go.RowKit Go.Proofs.YtdhmnjoceeolcaaW.PrintWords Go.Proofs.YtdhmnjoceeolcaaW.PrintLast Go.Proofs.YtdhmnjoceeolcaaW.PrintMore
def crucibleref06_settled.f (l0 : List (S37)) : Option (List Int × List Bool × List Int) := if Asm.checkV l0 = 0 then some (Asm.toV l0, Asm.settle l0, Asm.ats l0 (Asm.settle l0)) else none
theorem crucibleref06_settled.calls (A0 : Option Addr) (c0 : Nat) (l0 : List (S37)) (r1 : List Int) (r2 : List Bool) (r3 : List Int) (w : World) (hr0 : Kd.C k37 w A0 l0.length l0) (hc0 : l0.length ≤ c0) (h : crucibleref06_settled.f l0 = some (r1, r2, r3)) :
    Calls Try.prog 20 #[.slice A0 l0.length c0] w fun e w' => ∃ v0_ v1_ v2_ : Value, e = .returned (.agg #[v0_, v1_, v2_]) ∧ Kd.R (Kd.int .i64) 3 w' w.heap.size (fun k_ => some k_ ≠ (v2_ : Value).ownBlock) v0_ r1 ∧ Kd.R Kd.bool 4 w' w.heap.size (fun _ => True) v1_ r2 ∧ Kd.R (Kd.int .i64) 3 w' w.heap.size (fun k_ => some k_ ≠ (v0_ : Value).ownBlock) v2_ r3 ∧ Below w.heap.size w w' := by
  unfold crucibleref06_settled.f at h
  by_cases hc : Asm.checkV l0 = 0
  · rw [if_pos hc] at h
    injection h with h
    injection h with h1 h
    injection h with h2 h3
    subst h1 h2 h3
    have H := Asm.okl l0 hc
    have hn := H.len
    refine (Asm.settled_calls (w := w) (A := A0) (c := c0) ⟨hr0⟩ ⟨hc0⟩ ⟨H⟩).mono ?_
    rintro e w' ⟨bt, bl, ba, rfl, ht, hl, ha, hne, tt, ll, aa, hb⟩
    refine ⟨_, _, _, rfl, Asm.R_is tt.out ht (Asm.toV_len l0) (by omega) _ ?_, Asm.R_bs ll.out hl (Asm.settle_len l0) (by omega) _ trivial, Asm.R_is aa.out ha (Asm.ats_len l0 _) (by omega) _ ?_, hb.out⟩
    · simp only [Value.ownBlock, ne_eq, Option.some.injEq]; exact hne
    · simp only [Value.ownBlock, ne_eq, Option.some.injEq]; exact fun h => hne h.symm
  · rw [if_neg hc] at h; cases h
end Go.Proofs.Ytdhmnjoceeolcaa.GF
end
section
namespace Go.Proofs.Ytdhmnjoceeolcaa.GF
open Go.RowKit Go.Proofs.YtdhmnjoceeolcaaW.PrintWords Go.Proofs.YtdhmnjoceeolcaaW.PrintLast Go.Proofs.YtdhmnjoceeolcaaW.PrintMore
attribute [local go_sem] max2_int min2_int max_two min_two max_three min_three max_four min_four   -- for this text's walks alone
set_option linter.unusedVariables false
set_option linter.unusedSimpArgs false
def crucibleref02_Encode.f (k : Nat) (a0_0 : Int) (a0_1 : Int) (a0_2 : Int) (a0_3 : Int) (a0_4 : Int) : Option (Int × Int) := (crucibleref02_May.f k a0_0 a0_1 a0_2 a0_3 a0_4).bind fun t273 => (if t273 = true then ((crucibleref02_shaped.f k a0_0).bind fun bt274 => (if bt274.2.2.2.1 > 0 then (if 0 ≤ (IntKind.u64.wrap (bt274.2.2.2.1)) then (some (Go.bits .or .u32 (Go.bits .or .u32 (Go.bits .or .u32 (Go.bits .or .u32 ((((a0_0) % 4294967296) * 16777216) % 4294967296) ((((a0_1) % 4294967296) * 1048576) % 4294967296)) ((((a0_2) % 4294967296) * 65536) % 4294967296)) ((((a0_3) % 4294967296) * 4096) % 4294967296)) (Go.bits .and .u32 ((a0_4) % 4294967296) (((shl .u32 1 (IntKind.u64.wrap (bt274.2.2.2.1))) - 1) % 4294967296)), 0)) else (none)) else (some (Go.bits .or .u32 (Go.bits .or .u32 (Go.bits .or .u32 ((((a0_0) % 4294967296) * 16777216) % 4294967296) ((((a0_1) % 4294967296) * 1048576) % 4294967296)) ((((a0_2) % 4294967296) * 65536) % 4294967296)) ((((a0_3) % 4294967296) * 4096) % 4294967296), 0)))) else (some (0, 1)))
set_option maxHeartbeats 8000000 in
set_option maxRecDepth 100000 in
theorem crucibleref02_Encode.calls (k : Nat) (a0_0 : Int) (a0_1 : Int) (a0_2 : Int) (a0_3 : Int) (a0_4 : Int) (r1 : Int) (r2 : Int) (w : World) (h : crucibleref02_Encode.f k a0_0 a0_1 a0_2 a0_3 a0_4 = some (r1, r2)) :
    Calls Try.prog 32 #[.agg #[.int .i64 a0_0, .int .i64 a0_1, .int .i64 a0_2, .int .i64 a0_3, .int .i32 a0_4]] w fun e w' => e = .returned (.tuple #[.int .u32 r1, .int .i64 r2]) ∧ Below w.heap.size w w' := by
  have hu24 := Try.underlying24
  have hu80 := Try.underlying80
  have HB := Aside0.mk (Below.refl w.heap.size w)
  have H : ((crucibleref02_May.f k a0_0 a0_1 a0_2 a0_3 a0_4).bind fun t273 => (if t273 = true then ((crucibleref02_shaped.f k a0_0).bind fun bt274 => (if bt274.2.2.2.1 > 0 then (if 0 ≤ (IntKind.u64.wrap (bt274.2.2.2.1)) then (some (Go.bits .or .u32 (Go.bits .or .u32 (Go.bits .or .u32 (Go.bits .or .u32 ((((a0_0) % 4294967296) * 16777216) % 4294967296) ((((a0_1) % 4294967296) * 1048576) % 4294967296)) ((((a0_2) % 4294967296) * 65536) % 4294967296)) ((((a0_3) % 4294967296) * 4096) % 4294967296)) (Go.bits .and .u32 ((a0_4) % 4294967296) (((shl .u32 1 (IntKind.u64.wrap (bt274.2.2.2.1))) - 1) % 4294967296)), 0)) else (none)) else (some (Go.bits .or .u32 (Go.bits .or .u32 (Go.bits .or .u32 ((((a0_0) % 4294967296) * 16777216) % 4294967296) ((((a0_1) % 4294967296) * 1048576) % 4294967296)) ((((a0_2) % 4294967296) * 65536) % 4294967296)) ((((a0_3) % 4294967296) * 4096) % 4294967296), 0)))) else (some (0, 1)))) = some (r1, r2) := h
  clear h
  replace H := Option.bind_eq_some_iff.mp H
  obtain ⟨t273, A20, H⟩ := H
  replace H : (if t273 = true then ((crucibleref02_shaped.f k a0_0).bind fun bt274 => (if bt274.2.2.2.1 > 0 then (if 0 ≤ (IntKind.u64.wrap (bt274.2.2.2.1)) then (some (Go.bits .or .u32 (Go.bits .or .u32 (Go.bits .or .u32 (Go.bits .or .u32 ((((a0_0) % 4294967296) * 16777216) % 4294967296) ((((a0_1) % 4294967296) * 1048576) % 4294967296)) ((((a0_2) % 4294967296) * 65536) % 4294967296)) ((((a0_3) % 4294967296) * 4096) % 4294967296)) (Go.bits .and .u32 ((a0_4) % 4294967296) (((shl .u32 1 (IntKind.u64.wrap (bt274.2.2.2.1))) - 1) % 4294967296)), 0)) else (none)) else (some (Go.bits .or .u32 (Go.bits .or .u32 (Go.bits .or .u32 ((((a0_0) % 4294967296) * 16777216) % 4294967296) ((((a0_1) % 4294967296) * 1048576) % 4294967296)) ((((a0_2) % 4294967296) * 65536) % 4294967296)) ((((a0_3) % 4294967296) * 4096) % 4294967296), 0)))) else (some (0, 1))) = some (r1, r2) := H
  have A2 := Aside0.mk A20
  clear A20
  by_cases c3 : t273 = true
  · subst c3
    have H1 : ((crucibleref02_shaped.f k a0_0).bind fun bt274 => (if bt274.2.2.2.1 > 0 then (if 0 ≤ (IntKind.u64.wrap (bt274.2.2.2.1)) then (some (Go.bits .or .u32 (Go.bits .or .u32 (Go.bits .or .u32 (Go.bits .or .u32 ((((a0_0) % 4294967296) * 16777216) % 4294967296) ((((a0_1) % 4294967296) * 1048576) % 4294967296)) ((((a0_2) % 4294967296) * 65536) % 4294967296)) ((((a0_3) % 4294967296) * 4096) % 4294967296)) (Go.bits .and .u32 ((a0_4) % 4294967296) (((shl .u32 1 (IntKind.u64.wrap (bt274.2.2.2.1))) - 1) % 4294967296)), 0)) else (none)) else (some (Go.bits .or .u32 (Go.bits .or .u32 (Go.bits .or .u32 ((((a0_0) % 4294967296) * 16777216) % 4294967296) ((((a0_1) % 4294967296) * 1048576) % 4294967296)) ((((a0_2) % 4294967296) * 65536) % 4294967296)) ((((a0_3) % 4294967296) * 4096) % 4294967296), 0)))) = some (r1, r2) := by rw [if_pos rfl] at H; exact H
    clear H
    have H := H1
    clear H1
    replace H := Option.bind_eq_some_iff.mp H
    obtain ⟨⟨t274, t275, t276, t277, t278, t279⟩, A40, H⟩ := H
    replace H : (if t277 > 0 then (if 0 ≤ (IntKind.u64.wrap (t277)) then (some (Go.bits .or .u32 (Go.bits .or .u32 (Go.bits .or .u32 (Go.bits .or .u32 ((((a0_0) % 4294967296) * 16777216) % 4294967296) ((((a0_1) % 4294967296) * 1048576) % 4294967296)) ((((a0_2) % 4294967296) * 65536) % 4294967296)) ((((a0_3) % 4294967296) * 4096) % 4294967296)) (Go.bits .and .u32 ((a0_4) % 4294967296) (((shl .u32 1 (IntKind.u64.wrap (t277))) - 1) % 4294967296)), 0)) else (none)) else (some (Go.bits .or .u32 (Go.bits .or .u32 (Go.bits .or .u32 ((((a0_0) % 4294967296) * 16777216) % 4294967296) ((((a0_1) % 4294967296) * 1048576) % 4294967296)) ((((a0_2) % 4294967296) * 65536) % 4294967296)) ((((a0_3) % 4294967296) * 4096) % 4294967296), 0))) = some (r1, r2) := H
    have A4 := Aside0.mk A40
    clear A40
    by_cases c5 : t277 > 0
    · rw [if_pos c5] at H
      have c5b0 : decide (0 < t277) = true := decide_eq_true c5
      clear c5
      obtain ⟨ji6, hji6⟩ : ∃ j_ : Int, (IntKind.u64.wrap (t277)) = j_ := ⟨_, rfl⟩
      replace H : (if 0 ≤ (ji6) then (some (Go.bits .or .u32 (Go.bits .or .u32 (Go.bits .or .u32 (Go.bits .or .u32 ((((a0_0) % 4294967296) * 16777216) % 4294967296) ((((a0_1) % 4294967296) * 1048576) % 4294967296)) ((((a0_2) % 4294967296) * 65536) % 4294967296)) ((((a0_3) % 4294967296) * 4096) % 4294967296)) (Go.bits .and .u32 ((a0_4) % 4294967296) (((shl .u32 1 (ji6)) - 1) % 4294967296)), 0)) else (none)) = some (r1, r2) := by first | (rw [hji6] at H; exact H) | (simp only [hji6] at H ⊢; exact H)
      (try rw [hji6] at A2)
      (try rw [hji6] at A4)
      by_cases c7 : 0 ≤ (ji6)
      · rw [if_pos c7] at H
        have c7b0 := eq_true c7
        have c7b1 : decide (0 ≤ (ji6)) = true := decide_eq_true c7
        clear c7
        obtain ⟨ji8, hji8⟩ : ∃ j_ : Int, (shl .u32 1 (ji6)) = j_ := ⟨_, rfl⟩
        replace H : (some (Go.bits .or .u32 (Go.bits .or .u32 (Go.bits .or .u32 (Go.bits .or .u32 ((((a0_0) % 4294967296) * 16777216) % 4294967296) ((((a0_1) % 4294967296) * 1048576) % 4294967296)) ((((a0_2) % 4294967296) * 65536) % 4294967296)) ((((a0_3) % 4294967296) * 4096) % 4294967296)) (Go.bits .and .u32 ((a0_4) % 4294967296) (((ji8) - 1) % 4294967296)), 0)) = some (r1, r2) := by first | (rw [hji8] at H; exact H) | (simp only [hji8] at H ⊢; exact H)
        (try rw [hji8] at A2)
        (try rw [hji8] at A4)
        have hji8_ : (IntKind.u32.wrap (1 * 2 ^ min (ji6).toNat 32)) = ji8 := hji8
        have hji8z : (ji6) ≤ 32 → (IntKind.u32.wrap (1 * 2 ^ (ji6).toNat)) = ji8 := shl_small hji8
        have hji8u : (IntKind.u32.wrap (2 ^ min (ji6).toNat 32)) = ji8 := by have h_ := hji8_; rw [Int.one_mul] at h_; exact h_
        have hji8v : (ji6) ≤ 32 → (IntKind.u32.wrap (2 ^ (ji6).toNat)) = ji8 := fun hle_ => by have h_ := hji8z hle_; rw [Int.one_mul] at h_; exact h_
        simp only [Option.some.injEq, Prod.mk.injEq] at H
        obtain ⟨rfl, rfl⟩ := H
        go_enter Try.func32, Try.ntmps32
        go_wp2_with (first | ((with_reducible refine gate_dst (N := 1) rfl ?_); refine box_event ?hg (N := 1) ?hd (cs := #[.int .i64 a0_0, .int .i64 a0_1, .int .i64 a0_2, .int .i64 a0_3, .int .i32 a0_4]) (t := 24) ?hr ?_; (case hd => rfl); (case hg => rfl); (case hr => first | (go_simp; done) | (go_simp; rfl)); intro gb272 hg w9 hbox hb; have n0_ := Aside0.mk (below_step (by repeat (first | (with_reducible first | exact HB.out | apply below_alloc | apply pw_below_drewN | apply below_drew1) | exact HB.out)) hb); have n1_ := Aside0.mk (hbox); have n2_ := Aside0.mk ((by rw [hg]; exact (below_size (by repeat (first | (with_reducible first | exact HB.out | apply below_alloc | apply pw_below_drewN | apply below_drew1) | exact HB.out))) : w.heap.size ≤ gb272)); have n3_ := Aside0.mk ((by rw [hg]; exact (below_size (by repeat (first | (with_reducible first | exact HB.out | apply below_alloc | apply pw_below_drewN | apply below_drew1) | exact HB.out))) : w.heap.size ≤ gb272)); clear HB; have HB := n0_; have BK272 := n1_; have GW272 := n2_; have GE272 := n3_; clear n0_ n1_ n2_ n3_; clear hb hbox hg; have hcz10_0 : w9.cell? ⟨gb272, 0, none⟩ = some (.int .i64 a0_0) := (blk_cell BK272.out 0).trans rfl; have hcz10_1 : w9.cell? ⟨gb272, 1, none⟩ = some (.int .i64 a0_1) := (blk_cell BK272.out 1).trans rfl; have hcz10_2 : w9.cell? ⟨gb272, 2, none⟩ = some (.int .i64 a0_2) := (blk_cell BK272.out 2).trans rfl; have hcz10_3 : w9.cell? ⟨gb272, 3, none⟩ = some (.int .i64 a0_3) := (blk_cell BK272.out 3).trans rfl; have hcz10_4 : w9.cell? ⟨gb272, 4, none⟩ = some (.int .i32 a0_4) := (blk_cell BK272.out 4).trans rfl; have hfz10_0 := blk_frozen BK272.out 0; have hfz10_1 := blk_frozen BK272.out 1; have hfz10_2 := blk_frozen BK272.out 2; have hfz10_3 := blk_frozen BK272.out 3; have hfz10_4 := blk_frozen BK272.out 4) | ((with_reducible refine gate_callee (f := 34) rfl ?_); refine goesL_ (some 7) rfl rfl Try.func34 (by kernel_rfl) rfl #[.agg #[.int .i64 a0_0, .int .i64 a0_1, .int .i64 a0_2, .int .i64 a0_3, .int .i32 a0_4]] rfl (by (try simp only [List.map_toArray, List.map_cons, List.map_nil]); first | done | rfl | (simp only [List.length_drop, List.length_take]; rfl)) ?_; (with_reducible refine (crucibleref02_May.calls k a0_0 a0_1 a0_2 a0_3 a0_4 true _ A2.out).mono ?_); rintro e w11 ⟨rfl, hb⟩; refine ⟨_, rfl, ?_⟩; have n0_ := Aside0.mk (blk_below (g := gb272) (o := .cells #[.int .i64 a0_0, .int .i64 a0_1, .int .i64 a0_2, .int .i64 a0_3, .int .i32 a0_4] 24 (0, 0)) (by (with_reducible repeat (first | refine blk_drewN ?_ _ | refine blk_drew ?_ | refine blk_alloc ?_ _)); exact BK272.out) hb); have n1_ := Aside0.mk (below_step (by repeat (first | (with_reducible first | exact HB.out | apply below_alloc | apply pw_below_drewN | apply below_drew1 | refine below_set ?_ GE272.out) | exact HB.out)) hb); clear BK272; clear HB; have BK272 := n0_; have HB := n1_; clear n0_ n1_; (try clear hb); (try clear hb2); (try clear hk); (try clear hi); have hcz12_0 : w11.cell? ⟨gb272, 0, none⟩ = some (.int .i64 a0_0) := (blk_cell BK272.out 0).trans rfl; have hcz12_1 : w11.cell? ⟨gb272, 1, none⟩ = some (.int .i64 a0_1) := (blk_cell BK272.out 1).trans rfl; have hcz12_2 : w11.cell? ⟨gb272, 2, none⟩ = some (.int .i64 a0_2) := (blk_cell BK272.out 2).trans rfl; have hcz12_3 : w11.cell? ⟨gb272, 3, none⟩ = some (.int .i64 a0_3) := (blk_cell BK272.out 3).trans rfl; have hcz12_4 : w11.cell? ⟨gb272, 4, none⟩ = some (.int .i32 a0_4) := (blk_cell BK272.out 4).trans rfl; have hfz12_0 := blk_frozen BK272.out 0; have hfz12_1 := blk_frozen BK272.out 1; have hfz12_2 := blk_frozen BK272.out 2; have hfz12_3 := blk_frozen BK272.out 3; have hfz12_4 := blk_frozen BK272.out 4) | ((with_reducible refine gate_callee (f := 39) rfl ?_); refine goesL_ (some 30) rfl rfl Try.func39 (by kernel_rfl) rfl #[.int .i64 a0_0] rfl (by (try simp only [List.map_toArray, List.map_cons, List.map_nil]); first | done | rfl | (simp only [List.length_drop, List.length_take]; rfl)) ?_; (with_reducible refine (crucibleref02_shaped.calls k a0_0 t274 t275 t276 t277 t278 t279 _ A4.out).mono ?_); rintro e w13 ⟨rfl, hb⟩; refine ⟨_, rfl, ?_⟩; have n0_ := Aside0.mk (blk_below (g := gb272) (o := .cells #[.int .i64 a0_0, .int .i64 a0_1, .int .i64 a0_2, .int .i64 a0_3, .int .i32 a0_4] 24 (0, 0)) (by (with_reducible repeat (first | refine blk_drewN ?_ _ | refine blk_drew ?_ | refine blk_alloc ?_ _)); exact BK272.out) hb); have n1_ := Aside0.mk (below_step (by repeat (first | (with_reducible first | exact HB.out | apply below_alloc | apply pw_below_drewN | apply below_drew1 | refine below_set ?_ GE272.out) | exact HB.out)) hb); clear BK272; clear HB; have BK272 := n0_; have HB := n1_; clear n0_ n1_; (try clear hb); (try clear hb2); (try clear hk); (try clear hi)) | ((with_reducible refine gate_dst (N := 5) rfl ?_); refine box_event ?hg (N := 5) ?hd (cs := #[.bool false, .bool false, .bool false, .int .i64 0, .bool false, .bool false]) (t := 80) ?hr ?_; (case hd => rfl); (case hg => rfl); (case hr => first | (go_simp; done) | (go_simp; rfl)); intro gb280 hg w14 hbox hb; have n0_ := Aside0.mk (blk_below (g := gb272) (o := .cells #[.int .i64 a0_0, .int .i64 a0_1, .int .i64 a0_2, .int .i64 a0_3, .int .i32 a0_4] 24 (0, 0)) (by (with_reducible repeat (first | refine blk_drewN ?_ _ | refine blk_drew ?_ | refine blk_alloc ?_ _)); exact BK272.out) hb); have n1_ := Aside0.mk (below_step (by repeat (first | (with_reducible first | exact HB.out | apply below_alloc | apply pw_below_drewN | apply below_drew1 | refine below_set ?_ GE272.out) | exact HB.out)) hb); have n2_ := Aside0.mk (hbox); have n3_ := Aside0.mk ((by rw [hg]; exact (below_size (by repeat (first | (with_reducible first | exact HB.out | apply below_alloc | apply pw_below_drewN | apply below_drew1 | refine below_set ?_ GE272.out) | exact HB.out))) : w.heap.size ≤ gb280)); have n4_ := Aside0.mk ((by rw [hg]; exact (below_size (by repeat (first | (with_reducible first | exact HB.out | apply below_alloc | apply pw_below_drewN | apply below_drew1 | refine below_set ?_ GE272.out) | exact HB.out))) : w.heap.size ≤ gb280)); have n5_ := Aside0.mk ((by rw [hg]; exact Nat.ne_of_lt (blk_lt (g := gb272) (o := .cells #[.int .i64 a0_0, .int .i64 a0_1, .int .i64 a0_2, .int .i64 a0_3, .int .i32 a0_4] 24 (0, 0)) (by (with_reducible repeat (first | refine blk_drewN ?_ _ | refine blk_drew ?_ | refine blk_alloc ?_ _)); exact BK272.out)) : gb272 ≠ gb280)); have n6_ := Aside0.mk ((by rw [hg]; exact Nat.ne_of_gt (blk_lt (g := gb272) (o := .cells #[.int .i64 a0_0, .int .i64 a0_1, .int .i64 a0_2, .int .i64 a0_3, .int .i32 a0_4] 24 (0, 0)) (by (with_reducible repeat (first | refine blk_drewN ?_ _ | refine blk_drew ?_ | refine blk_alloc ?_ _)); exact BK272.out)) : gb280 ≠ gb272)); clear BK272; clear HB; have BK272 := n0_; have HB := n1_; have BK280 := n2_; have GW280 := n3_; have GE280 := n4_; have NB272_280 := n5_; have NB280_272 := n6_; clear n0_ n1_ n2_ n3_ n4_ n5_ n6_; clear hb hbox hg; have hnb15 := NB280_272.out; have hnc15 := NB272_280.out; have hcz16_0 : w14.cell? ⟨gb280, 0, none⟩ = some (.bool false) := (blk_cell BK280.out 0).trans rfl; have hcz16_1 : w14.cell? ⟨gb280, 1, none⟩ = some (.bool false) := (blk_cell BK280.out 1).trans rfl; have hcz16_2 : w14.cell? ⟨gb280, 2, none⟩ = some (.bool false) := (blk_cell BK280.out 2).trans rfl; have hcz16_3 : w14.cell? ⟨gb280, 3, none⟩ = some (.int .i64 0) := (blk_cell BK280.out 3).trans rfl; have hcz16_4 : w14.cell? ⟨gb280, 4, none⟩ = some (.bool false) := (blk_cell BK280.out 4).trans rfl; have hcz16_5 : w14.cell? ⟨gb280, 5, none⟩ = some (.bool false) := (blk_cell BK280.out 5).trans rfl; have hfz16_0 := blk_frozen BK280.out 0; have hfz16_1 := blk_frozen BK280.out 1; have hfz16_2 := blk_frozen BK280.out 2; have hfz16_3 := blk_frozen BK280.out 3; have hfz16_4 := blk_frozen BK280.out 4; have hfz16_5 := blk_frozen BK280.out 5; have hcz17_0 : w14.cell? ⟨gb272, 0, none⟩ = some (.int .i64 a0_0) := (blk_cell BK272.out 0).trans rfl; have hcz17_1 : w14.cell? ⟨gb272, 1, none⟩ = some (.int .i64 a0_1) := (blk_cell BK272.out 1).trans rfl; have hcz17_2 : w14.cell? ⟨gb272, 2, none⟩ = some (.int .i64 a0_2) := (blk_cell BK272.out 2).trans rfl; have hcz17_3 : w14.cell? ⟨gb272, 3, none⟩ = some (.int .i64 a0_3) := (blk_cell BK272.out 3).trans rfl; have hcz17_4 : w14.cell? ⟨gb272, 4, none⟩ = some (.int .i32 a0_4) := (blk_cell BK272.out 4).trans rfl; have hfz17_0 := blk_frozen BK272.out 0; have hfz17_1 := blk_frozen BK272.out 1; have hfz17_2 := blk_frozen BK272.out 2; have hfz17_3 := blk_frozen BK272.out 3; have hfz17_4 := blk_frozen BK272.out 4))
        go_ret2
        exact ⟨by first | rfl | (simp [errW_none, errW_some] <;> rfl) | (simp only [← hji6, ← hji8]; first | rfl | (simp [errW_none, errW_some] <;> rfl)) | (simp [*, errW_none, errW_some] <;> rfl), by repeat (first | (with_reducible first | exact HB.out | apply below_alloc | apply pw_below_drewN | apply below_drew1 | refine below_set ?_ GE272.out | refine below_set ?_ GE280.out) | exact HB.out)⟩
      · rw [if_neg c7] at H
        exact absurd H (by simp)
    · rw [if_neg c5] at H
      have c5b0 : decide (0 < t277) = false := decide_eq_false c5
      clear c5
      simp only [Option.some.injEq, Prod.mk.injEq] at H
      obtain ⟨rfl, rfl⟩ := H
      go_enter Try.func32, Try.ntmps32
      go_wp2_with (first | ((with_reducible refine gate_dst (N := 1) rfl ?_); refine box_event ?hg (N := 1) ?hd (cs := #[.int .i64 a0_0, .int .i64 a0_1, .int .i64 a0_2, .int .i64 a0_3, .int .i32 a0_4]) (t := 24) ?hr ?_; (case hd => rfl); (case hg => rfl); (case hr => first | (go_simp; done) | (go_simp; rfl)); intro gb272 hg w18 hbox hb; have n0_ := Aside0.mk (below_step (by repeat (first | (with_reducible first | exact HB.out | apply below_alloc | apply pw_below_drewN | apply below_drew1) | exact HB.out)) hb); have n1_ := Aside0.mk (hbox); have n2_ := Aside0.mk ((by rw [hg]; exact (below_size (by repeat (first | (with_reducible first | exact HB.out | apply below_alloc | apply pw_below_drewN | apply below_drew1) | exact HB.out))) : w.heap.size ≤ gb272)); have n3_ := Aside0.mk ((by rw [hg]; exact (below_size (by repeat (first | (with_reducible first | exact HB.out | apply below_alloc | apply pw_below_drewN | apply below_drew1) | exact HB.out))) : w.heap.size ≤ gb272)); clear HB; have HB := n0_; have BK272 := n1_; have GW272 := n2_; have GE272 := n3_; clear n0_ n1_ n2_ n3_; clear hb hbox hg; have hcz19_0 : w18.cell? ⟨gb272, 0, none⟩ = some (.int .i64 a0_0) := (blk_cell BK272.out 0).trans rfl; have hcz19_1 : w18.cell? ⟨gb272, 1, none⟩ = some (.int .i64 a0_1) := (blk_cell BK272.out 1).trans rfl; have hcz19_2 : w18.cell? ⟨gb272, 2, none⟩ = some (.int .i64 a0_2) := (blk_cell BK272.out 2).trans rfl; have hcz19_3 : w18.cell? ⟨gb272, 3, none⟩ = some (.int .i64 a0_3) := (blk_cell BK272.out 3).trans rfl; have hcz19_4 : w18.cell? ⟨gb272, 4, none⟩ = some (.int .i32 a0_4) := (blk_cell BK272.out 4).trans rfl; have hfz19_0 := blk_frozen BK272.out 0; have hfz19_1 := blk_frozen BK272.out 1; have hfz19_2 := blk_frozen BK272.out 2; have hfz19_3 := blk_frozen BK272.out 3; have hfz19_4 := blk_frozen BK272.out 4) | ((with_reducible refine gate_callee (f := 34) rfl ?_); refine goesL_ (some 7) rfl rfl Try.func34 (by kernel_rfl) rfl #[.agg #[.int .i64 a0_0, .int .i64 a0_1, .int .i64 a0_2, .int .i64 a0_3, .int .i32 a0_4]] rfl (by (try simp only [List.map_toArray, List.map_cons, List.map_nil]); first | done | rfl | (simp only [List.length_drop, List.length_take]; rfl)) ?_; (with_reducible refine (crucibleref02_May.calls k a0_0 a0_1 a0_2 a0_3 a0_4 true _ A2.out).mono ?_); rintro e w20 ⟨rfl, hb⟩; refine ⟨_, rfl, ?_⟩; have n0_ := Aside0.mk (blk_below (g := gb272) (o := .cells #[.int .i64 a0_0, .int .i64 a0_1, .int .i64 a0_2, .int .i64 a0_3, .int .i32 a0_4] 24 (0, 0)) (by (with_reducible repeat (first | refine blk_drewN ?_ _ | refine blk_drew ?_ | refine blk_alloc ?_ _)); exact BK272.out) hb); have n1_ := Aside0.mk (below_step (by repeat (first | (with_reducible first | exact HB.out | apply below_alloc | apply pw_below_drewN | apply below_drew1 | refine below_set ?_ GE272.out) | exact HB.out)) hb); clear BK272; clear HB; have BK272 := n0_; have HB := n1_; clear n0_ n1_; (try clear hb); (try clear hb2); (try clear hk); (try clear hi); have hcz21_0 : w20.cell? ⟨gb272, 0, none⟩ = some (.int .i64 a0_0) := (blk_cell BK272.out 0).trans rfl; have hcz21_1 : w20.cell? ⟨gb272, 1, none⟩ = some (.int .i64 a0_1) := (blk_cell BK272.out 1).trans rfl; have hcz21_2 : w20.cell? ⟨gb272, 2, none⟩ = some (.int .i64 a0_2) := (blk_cell BK272.out 2).trans rfl; have hcz21_3 : w20.cell? ⟨gb272, 3, none⟩ = some (.int .i64 a0_3) := (blk_cell BK272.out 3).trans rfl; have hcz21_4 : w20.cell? ⟨gb272, 4, none⟩ = some (.int .i32 a0_4) := (blk_cell BK272.out 4).trans rfl; have hfz21_0 := blk_frozen BK272.out 0; have hfz21_1 := blk_frozen BK272.out 1; have hfz21_2 := blk_frozen BK272.out 2; have hfz21_3 := blk_frozen BK272.out 3; have hfz21_4 := blk_frozen BK272.out 4) | ((with_reducible refine gate_callee (f := 39) rfl ?_); refine goesL_ (some 30) rfl rfl Try.func39 (by kernel_rfl) rfl #[.int .i64 a0_0] rfl (by (try simp only [List.map_toArray, List.map_cons, List.map_nil]); first | done | rfl | (simp only [List.length_drop, List.length_take]; rfl)) ?_; (with_reducible refine (crucibleref02_shaped.calls k a0_0 t274 t275 t276 t277 t278 t279 _ A4.out).mono ?_); rintro e w22 ⟨rfl, hb⟩; refine ⟨_, rfl, ?_⟩; have n0_ := Aside0.mk (blk_below (g := gb272) (o := .cells #[.int .i64 a0_0, .int .i64 a0_1, .int .i64 a0_2, .int .i64 a0_3, .int .i32 a0_4] 24 (0, 0)) (by (with_reducible repeat (first | refine blk_drewN ?_ _ | refine blk_drew ?_ | refine blk_alloc ?_ _)); exact BK272.out) hb); have n1_ := Aside0.mk (below_step (by repeat (first | (with_reducible first | exact HB.out | apply below_alloc | apply pw_below_drewN | apply below_drew1 | refine below_set ?_ GE272.out) | exact HB.out)) hb); clear BK272; clear HB; have BK272 := n0_; have HB := n1_; clear n0_ n1_; (try clear hb); (try clear hb2); (try clear hk); (try clear hi)) | ((with_reducible refine gate_dst (N := 5) rfl ?_); refine box_event ?hg (N := 5) ?hd (cs := #[.bool false, .bool false, .bool false, .int .i64 0, .bool false, .bool false]) (t := 80) ?hr ?_; (case hd => rfl); (case hg => rfl); (case hr => first | (go_simp; done) | (go_simp; rfl)); intro gb280 hg w23 hbox hb; have n0_ := Aside0.mk (blk_below (g := gb272) (o := .cells #[.int .i64 a0_0, .int .i64 a0_1, .int .i64 a0_2, .int .i64 a0_3, .int .i32 a0_4] 24 (0, 0)) (by (with_reducible repeat (first | refine blk_drewN ?_ _ | refine blk_drew ?_ | refine blk_alloc ?_ _)); exact BK272.out) hb); have n1_ := Aside0.mk (below_step (by repeat (first | (with_reducible first | exact HB.out | apply below_alloc | apply pw_below_drewN | apply below_drew1 | refine below_set ?_ GE272.out) | exact HB.out)) hb); have n2_ := Aside0.mk (hbox); have n3_ := Aside0.mk ((by rw [hg]; exact (below_size (by repeat (first | (with_reducible first | exact HB.out | apply below_alloc | apply pw_below_drewN | apply below_drew1 | refine below_set ?_ GE272.out) | exact HB.out))) : w.heap.size ≤ gb280)); have n4_ := Aside0.mk ((by rw [hg]; exact (below_size (by repeat (first | (with_reducible first | exact HB.out | apply below_alloc | apply pw_below_drewN | apply below_drew1 | refine below_set ?_ GE272.out) | exact HB.out))) : w.heap.size ≤ gb280)); have n5_ := Aside0.mk ((by rw [hg]; exact Nat.ne_of_lt (blk_lt (g := gb272) (o := .cells #[.int .i64 a0_0, .int .i64 a0_1, .int .i64 a0_2, .int .i64 a0_3, .int .i32 a0_4] 24 (0, 0)) (by (with_reducible repeat (first | refine blk_drewN ?_ _ | refine blk_drew ?_ | refine blk_alloc ?_ _)); exact BK272.out)) : gb272 ≠ gb280)); have n6_ := Aside0.mk ((by rw [hg]; exact Nat.ne_of_gt (blk_lt (g := gb272) (o := .cells #[.int .i64 a0_0, .int .i64 a0_1, .int .i64 a0_2, .int .i64 a0_3, .int .i32 a0_4] 24 (0, 0)) (by (with_reducible repeat (first | refine blk_drewN ?_ _ | refine blk_drew ?_ | refine blk_alloc ?_ _)); exact BK272.out)) : gb280 ≠ gb272)); clear BK272; clear HB; have BK272 := n0_; have HB := n1_; have BK280 := n2_; have GW280 := n3_; have GE280 := n4_; have NB272_280 := n5_; have NB280_272 := n6_; clear n0_ n1_ n2_ n3_ n4_ n5_ n6_; clear hb hbox hg; have hnb24 := NB280_272.out; have hnc24 := NB272_280.out; have hcz25_0 : w23.cell? ⟨gb280, 0, none⟩ = some (.bool false) := (blk_cell BK280.out 0).trans rfl; have hcz25_1 : w23.cell? ⟨gb280, 1, none⟩ = some (.bool false) := (blk_cell BK280.out 1).trans rfl; have hcz25_2 : w23.cell? ⟨gb280, 2, none⟩ = some (.bool false) := (blk_cell BK280.out 2).trans rfl; have hcz25_3 : w23.cell? ⟨gb280, 3, none⟩ = some (.int .i64 0) := (blk_cell BK280.out 3).trans rfl; have hcz25_4 : w23.cell? ⟨gb280, 4, none⟩ = some (.bool false) := (blk_cell BK280.out 4).trans rfl; have hcz25_5 : w23.cell? ⟨gb280, 5, none⟩ = some (.bool false) := (blk_cell BK280.out 5).trans rfl; have hfz25_0 := blk_frozen BK280.out 0; have hfz25_1 := blk_frozen BK280.out 1; have hfz25_2 := blk_frozen BK280.out 2; have hfz25_3 := blk_frozen BK280.out 3; have hfz25_4 := blk_frozen BK280.out 4; have hfz25_5 := blk_frozen BK280.out 5))
      go_ret2
      exact ⟨by first | rfl | (simp [errW_none, errW_some] <;> rfl) | (simp [*, errW_none, errW_some] <;> rfl), by repeat (first | (with_reducible first | exact HB.out | apply below_alloc | apply pw_below_drewN | apply below_drew1 | refine below_set ?_ GE272.out | refine below_set ?_ GE280.out) | exact HB.out)⟩
  · replace c3 := Bool.eq_false_iff.mpr c3
    subst c3
    have H1 : (some (0, 1)) = some (r1, r2) := by rw [if_neg (show ¬ (false = true) by decide)] at H; exact H
    clear H
    have H := H1
    clear H1
    simp only [Option.some.injEq, Prod.mk.injEq] at H
    obtain ⟨rfl, rfl⟩ := H
    go_enter Try.func32, Try.ntmps32
    go_wp2_with (first | ((with_reducible refine gate_dst (N := 1) rfl ?_); refine box_event ?hg (N := 1) ?hd (cs := #[.int .i64 a0_0, .int .i64 a0_1, .int .i64 a0_2, .int .i64 a0_3, .int .i32 a0_4]) (t := 24) ?hr ?_; (case hd => rfl); (case hg => rfl); (case hr => first | (go_simp; done) | (go_simp; rfl)); intro gb272 hg w26 hbox hb; have n0_ := Aside0.mk (below_step (by repeat (first | (with_reducible first | exact HB.out | apply below_alloc | apply pw_below_drewN | apply below_drew1) | exact HB.out)) hb); have n1_ := Aside0.mk (hbox); have n2_ := Aside0.mk ((by rw [hg]; exact (below_size (by repeat (first | (with_reducible first | exact HB.out | apply below_alloc | apply pw_below_drewN | apply below_drew1) | exact HB.out))) : w.heap.size ≤ gb272)); have n3_ := Aside0.mk ((by rw [hg]; exact (below_size (by repeat (first | (with_reducible first | exact HB.out | apply below_alloc | apply pw_below_drewN | apply below_drew1) | exact HB.out))) : w.heap.size ≤ gb272)); clear HB; have HB := n0_; have BK272 := n1_; have GW272 := n2_; have GE272 := n3_; clear n0_ n1_ n2_ n3_; clear hb hbox hg; have hcz27_0 : w26.cell? ⟨gb272, 0, none⟩ = some (.int .i64 a0_0) := (blk_cell BK272.out 0).trans rfl; have hcz27_1 : w26.cell? ⟨gb272, 1, none⟩ = some (.int .i64 a0_1) := (blk_cell BK272.out 1).trans rfl; have hcz27_2 : w26.cell? ⟨gb272, 2, none⟩ = some (.int .i64 a0_2) := (blk_cell BK272.out 2).trans rfl; have hcz27_3 : w26.cell? ⟨gb272, 3, none⟩ = some (.int .i64 a0_3) := (blk_cell BK272.out 3).trans rfl; have hcz27_4 : w26.cell? ⟨gb272, 4, none⟩ = some (.int .i32 a0_4) := (blk_cell BK272.out 4).trans rfl; have hfz27_0 := blk_frozen BK272.out 0; have hfz27_1 := blk_frozen BK272.out 1; have hfz27_2 := blk_frozen BK272.out 2; have hfz27_3 := blk_frozen BK272.out 3; have hfz27_4 := blk_frozen BK272.out 4) | ((with_reducible refine gate_callee (f := 34) rfl ?_); refine goesL_ (some 7) rfl rfl Try.func34 (by kernel_rfl) rfl #[.agg #[.int .i64 a0_0, .int .i64 a0_1, .int .i64 a0_2, .int .i64 a0_3, .int .i32 a0_4]] rfl (by (try simp only [List.map_toArray, List.map_cons, List.map_nil]); first | done | rfl | (simp only [List.length_drop, List.length_take]; rfl)) ?_; (with_reducible refine (crucibleref02_May.calls k a0_0 a0_1 a0_2 a0_3 a0_4 false _ A2.out).mono ?_); rintro e w28 ⟨rfl, hb⟩; refine ⟨_, rfl, ?_⟩; have n0_ := Aside0.mk (blk_below (g := gb272) (o := .cells #[.int .i64 a0_0, .int .i64 a0_1, .int .i64 a0_2, .int .i64 a0_3, .int .i32 a0_4] 24 (0, 0)) (by (with_reducible repeat (first | refine blk_drewN ?_ _ | refine blk_drew ?_ | refine blk_alloc ?_ _)); exact BK272.out) hb); have n1_ := Aside0.mk (below_step (by repeat (first | (with_reducible first | exact HB.out | apply below_alloc | apply pw_below_drewN | apply below_drew1 | refine below_set ?_ GE272.out) | exact HB.out)) hb); clear BK272; clear HB; have BK272 := n0_; have HB := n1_; clear n0_ n1_; (try clear hb); (try clear hb2); (try clear hk); (try clear hi)))
    go_ret2
    exact ⟨by first | rfl | (simp [errW_none, errW_some] <;> rfl) | (simp [*, errW_none, errW_some] <;> rfl), by repeat (first | (with_reducible first | exact HB.out | apply below_alloc | apply pw_below_drewN | apply below_drew1 | refine below_set ?_ GE272.out) | exact HB.out)⟩
def crucibleref06_put.f (k : Nat) (l0 : List Int) (a1_0 : Int) (a1_1 : Int) (a1_2 : Int) (a1_3 : Int) (a1_4 : Int) : Option (List Int) := (crucibleref02_Encode.f k a1_0 a1_1 a1_2 a1_3 a1_4).bind fun bt282 => ((some (([(bt282.1) % 256, (bt282.1 / 256) % 256, (bt282.1 / 65536) % 256, (bt282.1 / 16777216) % 256] : List Int) : List Int)).bind fun y284 => (if l0.length + y284.length < 140737488355328 then (some (l0 ++ y284)) else (none)))
set_option maxHeartbeats 8000000 in
set_option maxRecDepth 100000 in
theorem crucibleref06_put.calls (k : Nat) (P0_ : Nat → Prop) (u9000_ : Value) (l0 : List Int) (a1_0 : Int) (a1_1 : Int) (a1_2 : Int) (a1_3 : Int) (a1_4 : Int) (r : List Int) (w0 w : World) (hB : Below w0.heap.size w0 w) (ho0 : Kd.R (Kd.int .u8) 5 w w0.heap.size P0_ u9000_ l0) (h : crucibleref06_put.f k l0 a1_0 a1_1 a1_2 a1_3 a1_4 = some r) :
    Calls Try.prog 21 #[u9000_, .agg #[.int .i64 a1_0, .int .i64 a1_1, .int .i64 a1_2, .int .i64 a1_3, .int .i32 a1_4]] w fun e w' => ∃ v0_ : Value, e = .returned (v0_) ∧ Kd.R (Kd.int .u8) 5 w' w0.heap.size (fun k_ => (P0_ k_ ∨ w.heap.size ≤ k_)) v0_ r ∧ Below w0.heap.size w0 w' ∧ Kept w w' (fun k_ => P0_ k_) := by
  have hu24 := Try.underlying24
  have HO0 := Aside0.mk (show Kd.R (Kd.int .u8) 5 w w0.heap.size (fun k_ => (P0_ k_ ∨ w.heap.size ≤ k_)) u9000_ l0 from Kd.R_mono ho0 (fun k_ hk => (.inl hk)))
  have HK := Aside0.mk (Kept.refl w (fun k_ => P0_ k_))
  have HW0 := Aside0.mk hB.size
  have HB := Aside0.mk hB
  clear hB
  have H : ((crucibleref02_Encode.f k a1_0 a1_1 a1_2 a1_3 a1_4).bind fun bt282 => ((some (([(bt282.1) % 256, (bt282.1 / 256) % 256, (bt282.1 / 65536) % 256, (bt282.1 / 16777216) % 256] : List Int) : List Int)).bind fun y284 => (if l0.length + y284.length < 140737488355328 then (some (l0 ++ y284)) else (none)))) = some r := h
  clear h
  replace H := Option.bind_eq_some_iff.mp H
  obtain ⟨⟨t282, t283⟩, A30, H⟩ := H
  replace H : ((some (([(t282) % 256, (t282 / 256) % 256, (t282 / 65536) % 256, (t282 / 16777216) % 256] : List Int) : List Int)).bind fun y284 => (if l0.length + y284.length < 140737488355328 then (some (l0 ++ y284)) else (none))) = some r := H
  have A3 := Aside0.mk A30
  clear A30
  obtain ⟨y284, hy284⟩ : ∃ y_ : List Int, y_ = (([(t282) % 256, (t282 / 256) % 256, (t282 / 65536) % 256, (t282 / 16777216) % 256] : List Int)) := ⟨_, rfl⟩
  replace H : (if l0.length + y284.length < 140737488355328 then (some (l0 ++ y284)) else (none)) = some r := by first | (rw [hy284]; with_reducible exact H) | (have H2_ := (Option.bind_some _ _).symm.trans H; rw [hy284]; with_reducible exact H2_) | (have H2_ := (Option.bind_some _ _).symm.trans H; with_reducible exact H2_) | with_reducible exact H | (rw [hy284]; exact H) | exact H
  have Ny284 := Aside0.mk hy284
  clear hy284
  by_cases c4 : l0.length + y284.length < 140737488355328
  · rw [if_pos c4] at H
    have LMc4 := Aside0.mk c4
    clear c4
    obtain ⟨y287, hy287⟩ : ∃ y_ : List Int, y_ = (l0 ++ y284) := ⟨_, rfl⟩
    replace H : (some y287) = some r := by first | (rw [hy287]; with_reducible exact H) | (have H2_ := (Option.bind_some _ _).symm.trans H; rw [hy287]; with_reducible exact H2_) | (have H2_ := (Option.bind_some _ _).symm.trans H; with_reducible exact H2_) | with_reducible exact H | (rw [hy287]; exact H) | exact H
    have Ny287 := Aside0.mk hy287
    clear hy287
    obtain rfl := Option.some.inj H
    go_enter Try.func21, Try.ntmps21
    go_wp2_with (first | ((with_reducible refine gate_dst (N := 3) rfl ?_); refine box_event ?hg (N := 3) ?hd (cs := #[.int .i64 a1_0, .int .i64 a1_1, .int .i64 a1_2, .int .i64 a1_3, .int .i32 a1_4]) (t := 24) ?hr ?_; (case hd => rfl); (case hg => rfl); (case hr => first | (go_simp; done) | (go_simp; rfl)); intro gb281 hg w5 hbox hb; have n0_ := Aside0.mk (Kd.R_below (by (with_reducible repeat (first | apply Kd.R_alloc | apply Kd.R_drewN | apply Kd.R_drew)); exact HO0.out) hb); have n1_ := Aside0.mk (Kept.below (S := (fun k_ => P0_ k_)) (by repeat (first | (with_reducible first | exact HK.out | apply Kept.alloc | apply Kept.drewN | apply Kept.drew) | exact HK.out)) hb); have n2_ := Aside0.mk (below_step (by repeat (first | (with_reducible first | exact HB.out | apply below_alloc | apply pw_below_drewN | apply below_drew1) | exact HB.out)) hb); have n3_ := Aside0.mk (hbox); have n4_ := Aside0.mk ((by rw [hg]; exact (by first | exact HK.out.1 | exact (show Kept w _ (fun k_ => P0_ k_) from by repeat (first | (with_reducible first | exact HK.out | apply Kept.alloc | apply Kept.drewN | apply Kept.drew) | exact HK.out)).1) : w.heap.size ≤ gb281)); have n5_ := Aside0.mk ((by rw [hg]; exact (below_size (by repeat (first | (with_reducible first | exact HB.out | apply below_alloc | apply pw_below_drewN | apply below_drew1) | exact HB.out))) : w0.heap.size ≤ gb281)); clear HO0; clear HK; clear HB; have HO0 := n0_; have HK := n1_; have HB := n2_; have BK281 := n3_; have GW281 := n4_; have GE281 := n5_; clear n0_ n1_ n2_ n3_ n4_ n5_; clear hb hbox hg; have hcz6_0 : w5.cell? ⟨gb281, 0, none⟩ = some (.int .i64 a1_0) := (blk_cell BK281.out 0).trans rfl; have hcz6_1 : w5.cell? ⟨gb281, 1, none⟩ = some (.int .i64 a1_1) := (blk_cell BK281.out 1).trans rfl; have hcz6_2 : w5.cell? ⟨gb281, 2, none⟩ = some (.int .i64 a1_2) := (blk_cell BK281.out 2).trans rfl; have hcz6_3 : w5.cell? ⟨gb281, 3, none⟩ = some (.int .i64 a1_3) := (blk_cell BK281.out 3).trans rfl; have hcz6_4 : w5.cell? ⟨gb281, 4, none⟩ = some (.int .i32 a1_4) := (blk_cell BK281.out 4).trans rfl; have hfz6_0 := blk_frozen BK281.out 0; have hfz6_1 := blk_frozen BK281.out 1; have hfz6_2 := blk_frozen BK281.out 2; have hfz6_3 := blk_frozen BK281.out 3; have hfz6_4 := blk_frozen BK281.out 4) | ((with_reducible refine gate_callee (f := 32) rfl ?_); refine goesL_ (some 9) rfl rfl Try.func32 (by kernel_rfl) rfl #[.agg #[.int .i64 a1_0, .int .i64 a1_1, .int .i64 a1_2, .int .i64 a1_3, .int .i32 a1_4]] rfl (by (try simp only [List.map_toArray, List.map_cons, List.map_nil]); first | done | rfl | (simp only [List.length_drop, List.length_take]; rfl)) ?_; (with_reducible refine (crucibleref02_Encode.calls k a1_0 a1_1 a1_2 a1_3 a1_4 t282 t283 _ A3.out).mono ?_); rintro e w7 ⟨rfl, hb⟩; refine ⟨_, rfl, ?_⟩; have n0_ := Aside0.mk (Kd.R_below (by (with_reducible repeat (first | apply Kd.R_alloc | apply Kd.R_drewN | apply Kd.R_drew)); exact HO0.out) hb); have n1_ := Aside0.mk (blk_below (g := gb281) (o := .cells #[.int .i64 a1_0, .int .i64 a1_1, .int .i64 a1_2, .int .i64 a1_3, .int .i32 a1_4] 24 (0, 0)) (by (with_reducible repeat (first | refine blk_drewN ?_ _ | refine blk_drew ?_ | refine blk_alloc ?_ _)); exact BK281.out) hb); have n2_ := Aside0.mk (Kept.below (S := (fun k_ => P0_ k_)) (by repeat (first | (with_reducible first | exact HK.out | apply Kept.alloc | apply Kept.drewN | apply Kept.drew | refine Kept.setCell ?_ (.inr GW281.out) _) | exact HK.out)) hb); have n3_ := Aside0.mk (below_step (by repeat (first | (with_reducible first | exact HB.out | apply below_alloc | apply pw_below_drewN | apply below_drew1 | refine below_set ?_ GE281.out) | exact HB.out)) hb); clear HO0; clear BK281; clear HK; clear HB; have HO0 := n0_; have BK281 := n1_; have HK := n2_; have HB := n3_; clear n0_ n1_ n2_ n3_; (try clear hb); (try clear hb2); (try clear hk); (try clear hi)) | ((with_reducible refine gate_dst (N := 24) rfl ?_); refine Kd.R_lit (Kd.int .u8) _ 5 ?hg (N := 24) ?hd (xs := ([(t282) % 256, (t282 / 256) % 256, (t282 / 65536) % 256, (t282 / 16777216) % 256] : List Int)) (inner := [.int .u8 ((t282) % 256), .int .u8 ((t282 / 256) % 256), .int .u8 ((t282 / 65536) % 256), .int .u8 ((t282 / 16777216) % 256)]) (ok := fun _ => True) (okp := fun _ => True) ?hr ?hp (fun _ hk => hk) trivial (Below.refl _ _) (Nat.le_refl _) (by simp) ?_; (case hd => rfl); (case hg => rfl); (case hr => first | (go_simp; done) | (go_simp; rfl)); (case hp => exact (Reps.one (show Kd.M (Kd.int .u8) _ _ _ ((t282) % 256) [.int .u8 ((t282) % 256)] from rfl) (Reps.one (show Kd.M (Kd.int .u8) _ _ _ ((t282 / 256) % 256) [.int .u8 ((t282 / 256) % 256)] from rfl) (Reps.one (show Kd.M (Kd.int .u8) _ _ _ ((t282 / 65536) % 256) [.int .u8 ((t282 / 65536) % 256)] from rfl) (Reps.one (show Kd.M (Kd.int .u8) _ _ _ ((t282 / 16777216) % 256) [.int .u8 ((t282 / 16777216) % 256)] from rfl) (Reps.none _ _)))))); intro v285 w8 ho9 hb hg_ hnew_; clear hg_ hnew_; (first | rw [← Ny284.out] at ho9 | (simp only [Int.reduceToNat] at ho9; rw [← Ny284.out] at ho9)); have n0_ := Aside0.mk (Kd.R_elder' (by (with_reducible repeat (first | apply Kd.R_alloc | apply Kd.R_drewN | apply Kd.R_drew)); exact HO0.out) (Kd.R_base ho9) hb); have n1_ := Aside0.mk (Kd.R_lower (Kd.R_new' (Kd.R_newM (M := fun k_ => (P0_ k_ ∨ w.heap.size ≤ k_)) ho9 (by first | exact HK.out.1 | exact (show Kept w _ (fun k_ => P0_ k_) from by repeat (first | (with_reducible first | exact HK.out | apply Kept.alloc | apply Kept.drewN | apply Kept.drew | refine Kept.setCell ?_ (.inr GW281.out) _) | exact HK.out)).1) (fun k_ h_ => .inr h_)) (Kd.R_lt (by (with_reducible repeat (first | apply Kd.R_alloc | apply Kd.R_drewN | apply Kd.R_drew)); exact HO0.out))) (below_size (by repeat (first | (with_reducible first | exact HB.out | apply below_alloc | apply pw_below_drewN | apply below_drew1 | refine below_set ?_ GE281.out) | exact HB.out)))); have n2_ := Aside0.mk (blk_below (g := gb281) (o := .cells #[.int .i64 a1_0, .int .i64 a1_1, .int .i64 a1_2, .int .i64 a1_3, .int .i32 a1_4] 24 (0, 0)) (by (with_reducible repeat (first | refine blk_drewN ?_ _ | refine blk_drew ?_ | refine blk_alloc ?_ _)); exact BK281.out) hb); have n3_ := Aside0.mk (Kept.below (S := (fun k_ => P0_ k_)) (by repeat (first | (with_reducible first | exact HK.out | apply Kept.alloc | apply Kept.drewN | apply Kept.drew | refine Kept.setCell ?_ (.inr GW281.out) _) | exact HK.out)) hb); have n4_ := Aside0.mk (below_step (by repeat (first | (with_reducible first | exact HB.out | apply below_alloc | apply pw_below_drewN | apply below_drew1 | refine below_set ?_ GE281.out) | exact HB.out)) hb); clear HO0; clear BK281; clear HK; clear HB; have HO0 := n0_; have HO286 := n1_; have BK281 := n2_; have HK := n3_; have HB := n4_; clear n0_ n1_ n2_ n3_ n4_; clear hb ho9; obtain ⟨Ao11, co11, eo11⟩ := Kd.R_slice HO286.out; subst eo11) | ((with_reducible refine gate_builtin (b := .append) (xs := #[.tmp 12, .tmp 24]) rfl ?_); at_builtin; refine Kd.R_append_rows (Kd.int .u8) (w0 := w0) w0.heap.size rfl (.tmp 12) (.tmp 24) 51 5 (.int .u8 0) 1 rfl Try.underlying51 info5 rfl (by decide) (by omega) u9000_ l0 y284 _ _ _ (fun k_ => (P0_ k_ ∨ w.heap.size ≤ k_) ∧ some k_ ≠ (.slice Ao11 y284.length co11 : Value).ownBlock) (fun _ => False) rfl rfl ?aO ?aR (fun _ _ h => h) (fun _ h => h.elim) ?aF ?aB ?aS ?aL ?_; (case aR => repeat (first | exact (Kd.R_reads' HO286.out).2.2 | (with_reducible refine Kd.C_alloc ?_ _) | (with_reducible refine Kd.C_drewN ?_ _) | (with_reducible refine Kd.C_drew ?_))); (case aB => exact (by repeat (first | (with_reducible first | exact HB.out | apply below_alloc | apply pw_below_drewN | apply below_drew1 | refine below_set ?_ GE281.out) | exact HB.out))); (case aF => exact (fun k_ hk => ⟨(.inr (Nat.le_trans (by first | exact HK.out.1 | exact (show Kept w _ (fun k_ => P0_ k_) from by repeat (first | (with_reducible first | exact HK.out | apply Kept.alloc | apply Kept.drewN | apply Kept.drew | refine Kept.setCell ?_ (.inr GW281.out) _) | exact HK.out)).1) hk)), Kd.fresh' (Kd.R_lt (by (with_reducible repeat (first | apply Kd.R_alloc | apply Kd.R_drewN | apply Kd.R_drew)); exact HO286.out)) k_ hk⟩)); (case aO => exact (by (with_reducible repeat (first | apply Kd.R_alloc | apply Kd.R_drewN | apply Kd.R_drew)); exact HO0.out)); (case aS => exact (below_size (by repeat (first | (with_reducible first | exact HB.out | apply below_alloc | apply pw_below_drewN | apply below_drew1 | refine below_set ?_ GE281.out) | exact HB.out)))); (case aL => have := LMc4.out; omega); intro v288 w10 ho hb hg hat; rw [← Ny287.out] at ho; have n0_ := Aside0.mk (blk_grown (g := gb281) (o := .cells #[.int .i64 a1_0, .int .i64 a1_1, .int .i64 a1_2, .int .i64 a1_3, .int .i32 a1_4] 24 (0, 0)) (by (with_reducible repeat (first | refine blk_drewN ?_ _ | refine blk_drew ?_ | refine blk_alloc ?_ _)); exact BK281.out) hg (Kd.R_ne HO0.out BK281.out (by decide))); have n1_ := Aside0.mk (Kd.R_after (ok := (fun k_ => (P0_ k_ ∨ w.heap.size ≤ k_))) (by (with_reducible repeat (first | apply Kd.R_alloc | apply Kd.R_drewN | apply Kd.R_drew)); exact Kd.R_mono HO286.out (fun _ hk => ⟨hk.1.1, hk.2⟩)) hg hat); have n2_ := Aside0.mk (hb); have n3_ := Aside0.mk (Kept.of_grown (S := (fun k_ => P0_ k_)) hg (by repeat (first | (with_reducible first | exact HK.out | apply Kept.alloc | apply Kept.drewN | apply Kept.drew | refine Kept.setCell ?_ (.inr GW281.out) _) | exact HK.out)) (fun k_ e_ => (HO0.out.1 k_ e_).1)); have n4_ := Aside0.mk (ho); clear BK281; clear HO286; clear HB; clear HK; clear HO0; have BK281 := n0_; have HO286 := n1_; have HB := n2_; have HK := n3_; have HO289 := n4_; clear n0_ n1_ n2_ n3_ n4_; clear ho hb hg hat))
    go_ret
    exact ⟨_, by first | rfl | (simp [errW_none, errW_some] <;> rfl) | (simp [*, errW_none, errW_some] <;> rfl), by (with_reducible repeat (first | apply Kd.R_alloc | apply Kd.R_drewN | apply Kd.R_drew)); exact Kd.R_mono HO289.out (fun _ hk => hk.1), by repeat (first | (with_reducible first | exact HB.out | apply below_alloc | apply pw_below_drewN | apply below_drew1 | refine below_set ?_ GE281.out) | exact HB.out), by repeat (first | (with_reducible first | exact HK.out | apply Kept.alloc | apply Kept.drewN | apply Kept.drew | refine Kept.setCell ?_ (.inr GW281.out) _) | exact HK.out)⟩
  · rw [if_neg c4] at H
    exact absurd H (by simp)
end Go.Proofs.Ytdhmnjoceeolcaa.GF
end
