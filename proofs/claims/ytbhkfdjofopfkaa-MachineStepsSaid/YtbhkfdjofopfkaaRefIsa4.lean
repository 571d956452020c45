/- The reference of layer 2, on: what any word is read as. -/
import Derived.Test.YtbhkfdjofopfkaaRefIsa3
namespace Go.Proofs.Ytbhkfdjofopfkaa.RefIsa
open Go.RowKit Go.Proofs.Ytbhkfdjofopfkaa.PMachineSteps Go.Proofs.Ytbhkfdjofopfkaa.FactsDec Go.Proofs.YtbhkfdjofopfkaaW.PrintWords Go.Proofs.YtbhkfdjofopfkaaW.PrintLast
set_option linter.unusedVariables false
set_option linter.unusedSimpArgs false
section
variable {op p bits lo hi : Int} {sd sa sb sign is : Bool}

theorem im_range (w bits : Int) (sign : Bool) (w0 : 0 ≤ w) (w1 : w < 4294967296) : -2147483648 ≤ im w bits sign ∧ im w bits sign ≤ 2147483647 := by
  unfold im
  split
  · omega
  · split
    · split <;> omega
    · split
      · split <;> omega
      · omega

/-- The six numbers that a word is read as. -/
def Six (w op : Int) (sd sa sb : Bool) (bits : Int) (sign is : Bool) (lo hi : Int) (e : Ending) : Prop :=
  e = .returned (.tuple #[.agg #[.int .i64 (dec w op sd sa sb bits sign is lo hi).1, .int .i64 (dec w op sd sa sb bits sign is lo hi).2.1, .int .i64 (dec w op sd sa sb bits sign is lo hi).2.2.1, .int .i64 (dec w op sd sa sb bits sign is lo hi).2.2.2.1, .int .i32 (dec w op sd sa sb bits sign is lo hi).2.2.2.2.1], .int .i64 (dec w op sd sa sb bits sign is lo hi).2.2.2.2.2])

theorem join (w D A B I : Int) (W : World) (w0 : 0 ≤ w) (w1 : w < 4294967296) (h : Cl (w / 16777216) p sd sa sb bits sign is lo hi)
    (eD : D = fld w sd 1048576) (eA : A = fld w sa 65536) (eB : B = fld w sb 4096) (eI : I = im w bits sign)
    (X : ∀ (v c r1 r2 r3 r4 r5 r6 : Int), Hid (∀ W, Calls Try.prog 48 #[.agg #[.int .i64 (w / 16777216), .int .i64 D, .int .i64 A, .int .i64 B, .int .i32 I]] W fun e w' => e = .returned (.tuple #[.int .u32 v, .int .i64 c]) ∧ Below W.heap.size W w') →
      ((c = 1 ∧ r1 = 0 ∧ r2 = 0 ∧ r3 = 0 ∧ r4 = 0 ∧ r5 = 0 ∧ r6 = 1) ∨ (c = 0 ∧ (v == w) = false ∧ r1 = 0 ∧ r2 = 0 ∧ r3 = 0 ∧ r4 = 0 ∧ r5 = 0 ∧ r6 = 1) ∨ (c = 0 ∧ (v == w) = true ∧ r1 = w / 16777216 ∧ r2 = D ∧ r3 = A ∧ r4 = B ∧ r5 = I ∧ r6 = 0)) →
      Calls Try.prog 57 #[.int .u32 w] W fun e w' => e = .returned (.tuple #[.agg #[.int .i64 r1, .int .i64 r2, .int .i64 r3, .int .i64 r4, .int .i32 r5], .int .i64 r6]) ∧ Below W.heap.size W w') :
    Calls Try.prog 57 #[.int .u32 w] W fun e w' => Six w (w / 16777216) sd sa sb bits sign is lo hi e ∧ Below W.heap.size W w' := by
  obtain ⟨i0, i1⟩ := im_range w bits sign w0 w1
  subst eD eA eB eI
  unfold Six dec
  by_cases hok : ok (fld w sd 1048576) (fld w sa 65536) (fld w sb 4096) (im w bits sign) sd sa sb is lo hi = true
  · by_cases he : E (w / 16777216) (fld w sd 1048576) (fld w sa 65536) (fld w sb 4096) (im w bits sign) bits = w
    · rw [if_pos ⟨hok, he⟩]
      exact X _ 0 _ _ _ _ _ _ (fun W => enc _ _ _ _ W i0 i1 h hok) (.inr (.inr ⟨rfl, beq_iff_eq.2 he, rfl, rfl, rfl, rfl, rfl, rfl⟩))
    · rw [if_neg (fun x => he x.2)]
      exact X _ 0 _ _ _ _ _ _ (fun W => enc _ _ _ _ W i0 i1 h hok) (.inr (.inl ⟨rfl, beq_eq_false_iff_ne.2 he, rfl, rfl, rfl, rfl, rfl, rfl⟩))
  · rw [if_neg (fun x => hok x.1)]
    exact X 0 1 _ _ _ _ _ _ (fun W => encNo _ _ _ _ W i0 i1 h hok) (.inl ⟨rfl, rfl, rfl, rfl, rfl, rfl, rfl⟩)

theorem gd (w : Int) (w0 : 0 ≤ w) (w1 : w < 4294967296) : wrap64 (Go.bits .and .u32 (w / 1048576) 15) = fld w true 1048576 := by
  rw [and_15 _ (by omega) (by omega)]; unfold fld wrap64; simp only [if_true]; omega
theorem ga (w : Int) (w0 : 0 ≤ w) (w1 : w < 4294967296) : wrap64 (Go.bits .and .u32 (w / 65536) 15) = fld w true 65536 := by
  rw [and_15 _ (by omega) (by omega)]; unfold fld wrap64; simp only [if_true]; omega
theorem gb (w : Int) (w0 : 0 ≤ w) (w1 : w < 4294967296) : wrap64 (Go.bits .and .u32 (w / 4096) 15) = fld w true 4096 := by
  rw [and_15 _ (by omega) (by omega)]; unfold fld wrap64; simp only [if_true]; omega
theorem low (w : Int) (w0 : 0 ≤ w) (w1 : w < 4294967296) : wrap64 (Go.bits .and .u32 w 65535) = w % 65536 := by
  rw [and_low _ (by omega) (by omega)]; unfold wrap64; omega
theorem farr (w : Int) (w0 : 0 ≤ w) (w1 : w < 4294967296) : wrap64 (Go.bits .and .u32 w 16777215) = w % 16777216 := by
  rw [and_far _ (by omega) (by omega)]; unfold wrap64; omega
theorem i16n (w : Int) (w0 : 0 ≤ w) (w1 : w < 4294967296) (h : 32768 ≤ w % 65536) : wrap32 (wrap64 (wrap64 (Go.bits .and .u32 w 65535) - 65536)) = im w 16 true := by
  rw [low w w0 w1]
  unfold im
  simp only [show ¬ (16 : Int) = 0 by omega, show ¬ (16 : Int) = 24 by omega, if_false, if_true]
  rw [if_neg (by omega)]
  unfold wrap32 wrap64
  omega
theorem i16p (w : Int) (w0 : 0 ≤ w) (w1 : w < 4294967296) (h : ¬ 32768 ≤ w % 65536) : wrap32 (wrap64 (Go.bits .and .u32 w 65535)) = im w 16 true := by
  rw [low w w0 w1]
  unfold im
  simp only [show ¬ (16 : Int) = 0 by omega, show ¬ (16 : Int) = 24 by omega, if_false, if_true]
  rw [if_pos (by omega)]
  unfold wrap32
  omega
theorem i16u (w : Int) (w0 : 0 ≤ w) (w1 : w < 4294967296) : wrap32 (wrap64 (Go.bits .and .u32 w 65535)) = im w 16 false := by
  rw [low w w0 w1]
  unfold im
  simp only [show ¬ (16 : Int) = 0 by omega, show ¬ (16 : Int) = 24 by omega, if_false, Bool.false_eq_true]
  unfold wrap32
  omega
theorem i24n (w : Int) (w0 : 0 ≤ w) (w1 : w < 4294967296) (h : 8388608 ≤ w % 16777216) : wrap32 (wrap64 (wrap64 (Go.bits .and .u32 w 16777215) - 16777216)) = im w 24 true := by
  rw [farr w w0 w1]
  unfold im
  simp only [show ¬ (24 : Int) = 0 by omega, if_false, if_true]
  rw [if_neg (by omega)]
  generalize hm : w % 16777216 = m
  have : m < 16777216 := by omega
  unfold wrap32 wrap64
  omega
theorem i24p (w : Int) (w0 : 0 ≤ w) (w1 : w < 4294967296) (h : ¬ 8388608 ≤ w % 16777216) : wrap32 (wrap64 (Go.bits .and .u32 w 16777215)) = im w 24 true := by
  rw [farr w w0 w1]
  unfold im
  simp only [show ¬ (24 : Int) = 0 by omega, if_false, if_true]
  rw [if_pos (by omega)]
  generalize hm : w % 16777216 = m at *
  have : 0 ≤ m := by omega
  unfold wrap32
  omega

theorem decode (w : Int) (W : World) (w0 : 0 ≤ w) (w1 : w < 4294967296) (h : Cl (w / 16777216) p sd sa sb bits sign is lo hi) :
    Calls Try.prog 57 #[.int .u32 w] W fun e w' => Six w (w / 16777216) sd sa sb bits sign is lo hi e ∧ Below W.heap.size W w' := by
  have hs := Aside0.mk (shaped 0 h)
  have H := h
  have hl := low w w0 w1
  have hf := farr w w0 w1
  rcases h with ⟨_, rfl, rfl, rfl, rfl, rfl, rfl, rfl, rfl, rfl⟩ | ⟨_, rfl, rfl, rfl, rfl, rfl, rfl, rfl, rfl, rfl⟩ | ⟨_, rfl, rfl, rfl, rfl, rfl, rfl, rfl, rfl, rfl⟩ | ⟨_, rfl, rfl, rfl, rfl, rfl, rfl, rfl, rfl, rfl⟩ | ⟨_, rfl, rfl, rfl, rfl, rfl, rfl, rfl, rfl, rfl⟩ | ⟨_, rfl, rfl, rfl, rfl, rfl, rfl, rfl, rfl, rfl⟩ | ⟨_, rfl, rfl, rfl, rfl, rfl, rfl, rfl, rfl, rfl⟩ | ⟨_, rfl, rfl, rfl, rfl, rfl, rfl, rfl, rfl, rfl⟩ | ⟨_, rfl, rfl, rfl, rfl, rfl, rfl, rfl, rfl, rfl⟩ | ⟨_, rfl, rfl, rfl, rfl, rfl, rfl, rfl, rfl, rfl⟩ | ⟨_, rfl, rfl, rfl, rfl, rfl, rfl, rfl, rfl, rfl⟩
  · exact join w _ _ _ _ W w0 w1 H (gd w w0 w1) (ga w w0 w1) (gb w w0 w1) rfl (fun v c r1 r2 r3 r4 r5 r6 he ho => decA _ w v c r1 r2 r3 r4 r5 r6 _ W w0 w1 hs he ho)
  · by_cases hn : 32768 ≤ w % 65536
    · exact join w _ _ _ _ W w0 w1 H (gd w w0 w1) (ga w w0 w1) rfl (i16n w w0 w1 hn) (fun v c r1 r2 r3 r4 r5 r6 he ho => decBn _ w v c r1 r2 r3 r4 r5 r6 _ W w0 w1 hs (by rw [hl]; exact decide_eq_true hn) he ho)
    · exact join w _ _ _ _ W w0 w1 H (gd w w0 w1) (ga w w0 w1) rfl (i16p w w0 w1 hn) (fun v c r1 r2 r3 r4 r5 r6 he ho => decBp _ w v c r1 r2 r3 r4 r5 r6 _ W w0 w1 hs (by rw [hl]; exact decide_eq_false hn) he ho)
  · by_cases hn : 32768 ≤ w % 65536
    · exact join w _ _ _ _ W w0 w1 H (gd w w0 w1) (ga w w0 w1) rfl (i16n w w0 w1 hn) (fun v c r1 r2 r3 r4 r5 r6 he ho => decBn _ w v c r1 r2 r3 r4 r5 r6 _ W w0 w1 hs (by rw [hl]; exact decide_eq_true hn) he ho)
    · exact join w _ _ _ _ W w0 w1 H (gd w w0 w1) (ga w w0 w1) rfl (i16p w w0 w1 hn) (fun v c r1 r2 r3 r4 r5 r6 he ho => decBp _ w v c r1 r2 r3 r4 r5 r6 _ W w0 w1 hs (by rw [hl]; exact decide_eq_false hn) he ho)
  · by_cases hn : 32768 ≤ w % 65536
    · exact join w _ _ _ _ W w0 w1 H (gd w w0 w1) rfl rfl (i16n w w0 w1 hn) (fun v c r1 r2 r3 r4 r5 r6 he ho => decCn _ w v c r1 r2 r3 r4 r5 r6 _ W w0 w1 hs (by rw [hl]; exact decide_eq_true hn) he ho)
    · exact join w _ _ _ _ W w0 w1 H (gd w w0 w1) rfl rfl (i16p w w0 w1 hn) (fun v c r1 r2 r3 r4 r5 r6 he ho => decCp _ w v c r1 r2 r3 r4 r5 r6 _ W w0 w1 hs (by rw [hl]; exact decide_eq_false hn) he ho)
  · exact join w _ _ _ _ W w0 w1 H (gd w w0 w1) rfl rfl (i16u w w0 w1) (fun v c r1 r2 r3 r4 r5 r6 he ho => decD _ w v c r1 r2 r3 r4 r5 r6 _ W w0 w1 hs he ho)
  · by_cases hn : 32768 ≤ w % 65536
    · exact join w _ _ _ _ W w0 w1 H rfl (ga w w0 w1) rfl (i16n w w0 w1 hn) (fun v c r1 r2 r3 r4 r5 r6 he ho => decEn _ w v c r1 r2 r3 r4 r5 r6 _ W w0 w1 hs (by rw [hl]; exact decide_eq_true hn) he ho)
    · exact join w _ _ _ _ W w0 w1 H rfl (ga w w0 w1) rfl (i16p w w0 w1 hn) (fun v c r1 r2 r3 r4 r5 r6 he ho => decEp _ w v c r1 r2 r3 r4 r5 r6 _ W w0 w1 hs (by rw [hl]; exact decide_eq_false hn) he ho)
  · by_cases hn : 8388608 ≤ w % 16777216
    · exact join w _ _ _ _ W w0 w1 H rfl rfl rfl (i24n w w0 w1 hn) (fun v c r1 r2 r3 r4 r5 r6 he ho => decFn _ w v c r1 r2 r3 r4 r5 r6 _ W w0 w1 hs (by rw [hf]; exact decide_eq_true hn) he ho)
    · exact join w _ _ _ _ W w0 w1 H rfl rfl rfl (i24p w w0 w1 hn) (fun v c r1 r2 r3 r4 r5 r6 he ho => decFp _ w v c r1 r2 r3 r4 r5 r6 _ W w0 w1 hs (by rw [hf]; exact decide_eq_false hn) he ho)
  · exact join w _ _ _ _ W w0 w1 H rfl (ga w w0 w1) rfl rfl (fun v c r1 r2 r3 r4 r5 r6 he ho => decG _ w v c r1 r2 r3 r4 r5 r6 _ W w0 w1 hs he ho)
  · exact join w _ _ _ _ W w0 w1 H (gd w w0 w1) rfl rfl rfl (fun v c r1 r2 r3 r4 r5 r6 he ho => decH _ w v c r1 r2 r3 r4 r5 r6 _ W w0 w1 hs he ho)
  · exact join w _ _ _ _ W w0 w1 H rfl rfl rfl (i16u w w0 w1) (fun v c r1 r2 r3 r4 r5 r6 he ho => decI _ w v c r1 r2 r3 r4 r5 r6 _ W w0 w1 hs he ho)
  · exact join w _ _ _ _ W w0 w1 H rfl rfl rfl rfl (fun v c r1 r2 r3 r4 r5 r6 he ho => decJ _ w v c r1 r2 r3 r4 r5 r6 _ W w0 w1 hs he ho)
end
end Go.Proofs.Ytbhkfdjofopfkaa.RefIsa
