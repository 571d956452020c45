/- Labels' numbers do not matter: the plain law of AsmNames. -/
import Derived.Test.YtdhmnjoceeolcaaGFx5
namespace Go.Proofs.Ytdhmnjoceeolcaa.Asm
open Go.RowKit Go.Proofs.YtdhmnjoceeolcaaW.PrintWords Go.Proofs.YtdhmnjoceeolcaaW.PrintLast Go.Proofs.YtdhmnjoceeolcaaW.PrintMore Go.Proofs.Ytdhmnjoceeolcaa.GF
set_option linter.unusedVariables false
set_option linter.unusedSimpArgs false
/-- A label's other number. -/
def rl (by_ k : Int) : Int := if 0 < k then 3 * k + by_ else k
def rr (by_ : Int) (x : S37) : S37 := ⟨rl by_ x.f0, x.f1, rl by_ x.f2⟩
section
variable {b : Int} (hb : 0 ≤ b)
theorem rl_pos (hb : 0 ≤ b) (k : Int) : 0 < rl b k ↔ 0 < k := by unfold rl; split <;> omega
theorem rl_zero (hb : 0 ≤ b) (k : Int) : rl b k = 0 ↔ k = 0 := by unfold rl; split <;> omega
theorem rl_neg (hb : 0 ≤ b) (k : Int) : rl b k < 0 ↔ k < 0 := by unfold rl; split <;> omega
theorem rl_inj (hb : 0 ≤ b) (k j : Int) : rl b k = rl b j ↔ k = j := by unfold rl; split <;> split <;> omega
theorem rr_z : rr b z37 = z37 := rfl
theorem getD_r (l : List S37) (i : Nat) : (l.map (rr b)).getD i z37 = rr b (l.getD i z37) := by
  rw [List.getD_eq_getElem?_getD, List.getElem?_map, List.getD_eq_getElem?_getD]
  cases l[i]? with
  | none => rfl
  | some x => rfl
theorem may_r (hb : 0 ≤ b) (x : S37) : mayV (rr b x) = mayV x := by
  unfold mayV asm_may.f rr
  simp only [gt_iff_lt, rl_pos hb, rl_zero hb, rl_neg hb]
theorem cnt_r (hb : 0 ≤ b) (l : List S37) (k : Int) : cnt (l.map (rr b)) (rl b k) = cnt l k := by
  unfold cnt
  rw [List.countP_map]
  congr 1
  funext x
  simp only [Function.comp, rr]
  by_cases h : x.f0 = k
  · simp [h]
  · have : ¬ rl b x.f0 = rl b k := fun e => h ((rl_inj hb _ _).1 e)
    rw [beq_eq_false_iff_ne.2 this, beq_eq_false_iff_ne.2 h]
theorem bad_r (hb : 0 ≤ b) (l : List S37) (x : S37) : badV (l.map (rr b)) (rr b x) = badV l x := by
  show ((decide (0 < rl b x.f0) && decide (1 < (cnt (l.map (rr b)) (rl b x.f0) : Int))) || (decide (0 < rl b x.f2) && decide ((cnt (l.map (rr b)) (rl b x.f2) : Int) = 0))) = badV l x
  rw [cnt_r hb, cnt_r hb]
  simp only [rl_pos hb]
  rfl
theorem check_r (hb : 0 ≤ b) (l : List S37) : checkV (l.map (rr b)) = checkV l := by
  unfold checkV
  rw [List.length_map, List.all_map, List.any_map]
  rw [show (mayV ∘ rr b) = mayV from funext fun x => may_r hb x, show (badV (l.map (rr b)) ∘ rr b) = badV l from funext fun x => bad_r hb l x]
theorem sz_r (hb : 0 ≤ b) (x : S37) (c : Bool) : szV (rr b x) c = szV x c := by
  unfold szV
  simp only [rr, rl_pos hb]
theorem at_r (hb : 0 ≤ b) (l : List S37) (g : List Bool) : ∀ i, atV (l.map (rr b)) g i = atV l g i
  | 0 => rfl
  | i + 1 => by rw [atV, atV, at_r hb l g i, getD_r, sz_r hb]
theorem whO_r (hb : 0 ≤ b) (l : List S37) (g : List Bool) (k : Int) : ∀ i, whO (l.map (rr b)) g i (rl b k) = whO l g i k
  | 0 => rfl
  | i + 1 => by
    rw [whO, whO, whO_r hb l g k i, getD_r, at_r hb]
    simp only [rr, rl_pos hb, rl_inj hb]
theorem wh_r (hb : 0 ≤ b) (l : List S37) (g : List Bool) (k : Int) : whV (l.map (rr b)) g (rl b k) = whV l g k := by
  unfold whV
  rw [List.length_map, whO_r hb]
theorem d_r (hb : 0 ≤ b) (l : List S37) (g : List Bool) (i : Nat) : dV (l.map (rr b)) g i = dV l g i := by
  unfold dV
  rw [getD_r, at_r hb]
  show whV _ g (rl b (l.getD i z37).f2) - _ - _ = _
  rw [wh_r hb]
theorem far_r (hb : 0 ≤ b) (l : List S37) (g : List Bool) (i : Nat) : farV (l.map (rr b)) g i = farV l g i := by
  unfold farV
  rw [d_r hb, getD_r]
  have h : ((rr b (l.getD i z37)).f2 == 0) = ((l.getD i z37).f2 == 0) := by
    show (rl b (l.getD i z37).f2 == 0) = _
    by_cases h : (l.getD i z37).f2 = 0
    · rw [h]; rfl
    · rw [beq_eq_false_iff_ne.2 h, beq_eq_false_iff_ne.2 (fun e => h ((rl_zero hb _).1 e))]
  rw [h]
  rfl
theorem gr_r (hb : 0 ≤ b) (l : List S37) (g : List Bool) : ∀ i, gr (l.map (rr b)) g i = gr l g i
  | 0 => rfl
  | i + 1 => by rw [gr, gr, gr_r hb l g i, far_r hb]
theorem tv_r (hb : 0 ≤ b) (l : List S37) (g : List Bool) : ∀ i, tv (l.map (rr b)) g i = tv l g i
  | 0 => rfl
  | i + 1 => by rw [tv, tv, tv_r hb l g i, far_r hb]
theorem lay_r (hb : 0 ≤ b) (l : List S37) : ∀ k g, lay (l.map (rr b)) k g = lay l k g
  | 0, g => rfl
  | k + 1, g => by rw [lay, lay, List.length_map, tv_r hb, gr_r hb, lay_r hb l k]
theorem settle_r (hb : 0 ≤ b) (l : List S37) : settle (l.map (rr b)) = settle l := by
  unfold settle
  rw [List.length_map, lay_r hb]
theorem words_r (hb : 0 ≤ b) (l : List S37) (g : List Bool) (x : S37) (i : Nat) : wordsV (l.map (rr b)) g (rr b x) i = wordsV l g x i := by
  unfold wordsV
  have h : (rr b x).f2 = 0 ↔ x.f2 = 0 := rl_zero hb _
  have h2 : whV (l.map (rr b)) g (rr b x).f2 = whV l g x.f2 := wh_r hb l g x.f2
  rw [h2, at_r hb]
  by_cases h0 : x.f2 = 0
  · rw [if_pos h0, if_pos (h.2 h0)]; rfl
  · rw [if_neg h0, if_neg (fun e => h0 (h.1 e))]; rfl
theorem out_r (hb : 0 ≤ b) (l : List S37) (g : List Bool) : ∀ i, outV (l.map (rr b)) g i = outV l g i
  | 0 => rfl
  | i + 1 => by
    rw [outV, outV, out_r hb l g i, getD_r, words_r hb]
    have : (0 < (rr b (l.getD i z37)).f0) = (0 < (l.getD i z37).f0) := propext (rl_pos hb _)
    simp only [this]
theorem asm_r (hb : 0 ≤ b) (l : List S37) : asmV (l.map (rr b)) = asmV l := by
  unfold asmV
  rw [check_r hb, settle_r hb, List.length_map, at_r hb, out_r hb]
end
/-- The lines of the law's argument. -/
def linesV (h : List S37) (m : S24) (n : Int) (t : List S37) : List S37 := h ++ List.replicate (min n 262153).toNat ⟨0, m, 0⟩ ++ t
theorem lines_l0 (h t : List S37) (x0 x1 x2 x3 x4 x5 x6 n : Int) (hn : n ≤ 262153) (r : Nat) : ∀ (d : Nat) (xs : List S37) (i : Int), 0 ≤ i → (i + d = n ∨ (d = 0 ∧ n ≤ i)) → xs.length + d + t.length < 2513169434916 →
    cruciblelaw06_Lines.l0 (d + 1 + r) xs n i h x1 x2 x3 x4 x5 x6 t = some (xs ++ List.replicate d ⟨0, ⟨x1, x2, x3, x4, x5⟩, 0⟩ ++ t)
  | 0, xs, i, h0, hi, hl => by
    rw [show 0 + 1 + r = r + 1 by omega]
    unfold cruciblelaw06_Lines.l0
    rw [if_neg (by omega), if_pos (by omega)]
    simp
  | d + 1, xs, i, h0, hi, hl => by
    rw [show d + 1 + 1 + r = (d + 1 + r) + 1 by omega]
    unfold cruciblelaw06_Lines.l0
    rw [if_pos (by omega), if_pos (by omega), show wrap64 (i + 1) = i + 1 by unfold wrap64; omega]
    rw [lines_l0 h t x0 x1 x2 x3 x4 x5 x6 n hn r d _ (i + 1) (by omega) (by omega) (by rw [List.length_append]; simp; omega)]
    rw [List.replicate_succ]
    simp
theorem lines_some (h t : List S37) (x1 x2 x3 x4 x5 n : Int) (hl : h.length + t.length ≤ 38347922) : cruciblelaw06_Lines.f 262160 h x1 x2 x3 x4 x5 n t = some (linesV h ⟨x1, x2, x3, x4, x5⟩ n t) := by
  unfold cruciblelaw06_Lines.f linesV
  rw [if_pos (by simp; omega)]
  simp only [List.nil_append, Option.bind_some]
  by_cases hn : n > 262153
  · rw [if_pos hn, show min n 262153 = 262153 by omega, show (262160 : Nat) = 262159 + 1 by rfl]
    unfold cruciblelaw06_Lines.j0
    exact lines_l0 h t x1 x1 x2 x3 x4 x5 n 262153 (by omega) 5 262153 h 0 (by omega) (by omega) (by omega)
  · rw [if_neg hn, show min n 262153 = n by omega, show (262160 : Nat) = 262159 + 1 by rfl]
    unfold cruciblelaw06_Lines.j0
    have := lines_l0 h t x1 x1 x2 x3 x4 x5 n n (by omega) (262158 - n.toNat) n.toNat h 0 (by omega) (by omega) (by omega)
    rwa [show n.toNat + 1 + (262158 - n.toNat) = 262159 by omega] at this
theorem own_some (l : List S37) (h : l.length < 2513169434916) : cruciblelaw06_own.f l = some l := by
  unfold cruciblelaw06_own.f
  rw [if_pos (by simpa using h)]; rfl
theorem awake_some : cruciblelaw06_awake.f = some true := by kernel_rfl
theorem mod_rr (b : Int) (hb : 0 ≤ b) (h2 : b ≤ 65535) (k : Int) (hk : k ≤ 1099511627776) (h0 : 0 < k) : wrap64 (wrap64 (k * 3) + wrap64 b) = rl b k := by
  unfold rl wrap64
  rw [if_pos h0]
  omega
/-- Any round of the law's loop. -/
theorem names_l0 (b : Int) (hb : 0 ≤ b) (h2 : b ≤ 65535) (l : List S37) (hl : l.length ≤ 40000000) : ∀ (d i r : Nat), i + d = l.length →
    cruciblelaw06_AsmNames.l0 (2 * d + 1 + r) b l ((l.take i).map (rr b) ++ l.drop i) (i : Int) = some true
  | 0, i, r, h => by
    obtain rfl : i = l.length := by omega
    rw [List.take_length, List.drop_length, List.append_nil, show 2 * 0 + 1 + r = r + 1 by omega]
    unfold cruciblelaw06_AsmNames.l0
    rw [if_neg (by simp), own_some l (by omega)]
    simp only [Option.bind_some]
    rw [show asm_Assemble.f l = some (asmV l) from rfl, show asm_Assemble.f (l.map (rr b)) = some (asmV (l.map (rr b))) from rfl, asm_r hb]
    simp only [Option.bind_some, if_true, awake_some]
  | d + 1, i, r, h => by
    have hlt : i < l.length := by omega
    have hlen : ((l.take i).map (rr b) ++ l.drop i).length = l.length := by simp; omega
    have hat : rd_T37 ((l.take i).map (rr b) ++ l.drop i) (i : Int) = l.getD i z37 := by
      unfold rd_T37
      rw [Int.toNat_natCast, List.getD_eq_getElem?_getD, List.getElem?_append_right (by simp; omega)]
      simp [Nat.min_eq_left (Nat.le_of_lt hlt)]
    have hset : ∀ y : S37, ((l.take i).map (rr b) ++ l.drop i).set ((i : Nat) : Int).toNat y = (l.take i).map (rr b) ++ y :: l.drop (i + 1) := fun y => by
      rw [Int.toNat_natCast, List.set_append_right _ _ (by simp; omega)]
      simp only [List.length_map, List.length_take, Nat.min_eq_left (Nat.le_of_lt hlt), Nat.sub_self]
      rw [List.drop_eq_getElem_cons hlt]; rfl
    have hcons : l.drop i = l.getD i z37 :: l.drop (i + 1) := by rw [List.drop_eq_getElem_cons hlt, List.getD_eq_getElem?_getD, List.getElem?_eq_getElem hlt]; rfl
    have hnext : ∀ y, y = rr b (l.getD i z37) → (l.take i).map (rr b) ++ y :: l.drop (i + 1) = (l.take (i + 1)).map (rr b) ++ l.drop (i + 1) := fun y hy => by
      rw [take_snoc l i z37 hlt, hy]; simp
    have hw : wrap64 ((i : Int) + 1) = ((i + 1 : Nat) : Int) := by unfold wrap64; omega
    have ih := names_l0 b hb h2 l hl d (i + 1) r (by omega)
    rw [show 2 * (d + 1) + 1 + r = (2 * d + 1 + r) + 1 + 1 by omega]
    unfold cruciblelaw06_AsmNames.l0
    rw [if_pos (by rw [hlen]; omega), if_pos (by omega), hat]
    generalize hx : l.getD i z37 = x at *
    have hj : ∀ c : Bool, (c = false → x.f0 ≤ 1099511627776 ∧ x.f2 ≤ 1099511627776) → cruciblelaw06_AsmNames.j1 (2 * d + 1 + r + 1) b l ((l.take i).map (rr b) ++ l.drop i) (i : Int) c = some true := fun c hc => by
      unfold cruciblelaw06_AsmNames.j1
      cases c
      · obtain ⟨k1, k2⟩ := hc rfl
        rw [if_neg (by decide), if_pos (by omega), if_pos (by rw [hlen]; omega), hat]
        by_cases c1 : x.f0 > 0
        · rw [if_pos c1, hset]
          simp only [Option.bind_some]
          have hat2 : rd_T37 ((l.take i).map (rr b) ++ (⟨wrap64 (wrap64 (x.f0 * 3) + wrap64 b), ⟨x.f1.f0, x.f1.f1, x.f1.f2, x.f1.f3, x.f1.f4⟩, x.f2⟩ : S37) :: l.drop (i + 1)) (i : Int) = ⟨wrap64 (wrap64 (x.f0 * 3) + wrap64 b), ⟨x.f1.f0, x.f1.f1, x.f1.f2, x.f1.f3, x.f1.f4⟩, x.f2⟩ := by
            unfold rd_T37
            rw [Int.toNat_natCast, List.getD_eq_getElem?_getD, List.getElem?_append_right (by simp; omega)]
            simp [Nat.min_eq_left (Nat.le_of_lt hlt)]
          have hset2 : ∀ y z : S37, ((l.take i).map (rr b) ++ y :: l.drop (i + 1)).set ((i : Nat) : Int).toNat z = (l.take i).map (rr b) ++ z :: l.drop (i + 1) := fun y z => by
            rw [Int.toNat_natCast, List.set_append_right _ _ (by simp; omega)]
            simp [Nat.min_eq_left (Nat.le_of_lt hlt)]
          rw [hat2]
          by_cases c2 : x.f2 > 0
          · rw [if_pos c2, hset2, hw, hnext _ (by unfold rr; rw [mod_rr b hb h2 _ k1 c1, mod_rr b hb h2 _ k2 c2])]
            exact ih
          · rw [if_neg c2, hw, hnext _ (by unfold rr; rw [mod_rr b hb h2 _ k1 c1]; unfold rl; rw [if_neg c2])]
            exact ih
        · rw [if_neg c1]
          by_cases c2 : x.f2 > 0
          · rw [if_pos c2, hset, hw, hnext _ (by unfold rr; rw [mod_rr b hb h2 _ k2 c2]; unfold rl; rw [if_neg c1])]
            exact ih
          · rw [if_neg c2, hw, hcons, hnext _ (by unfold rr rl; rw [if_neg c1, if_neg c2])]
            exact ih
      · rw [if_pos rfl, awake_some]; rfl
    by_cases c1 : x.f0 > 1099511627776
    · rw [if_pos c1]; exact hj true (fun h => by cases h)
    · rw [if_neg c1]
      exact hj _ fun h => by have := of_decide_eq_false h; omega
theorem names_some (h t : List S37) (x1 x2 x3 x4 x5 n b : Int) (hb : 0 ≤ b) (h2 : b ≤ 65535) (hl : h.length + t.length ≤ 38347922) : ∃ k, cruciblelaw06_AsmNames.f k h x1 x2 x3 x4 x5 n t b = some true := by
  have hlen : (linesV h ⟨x1, x2, x3, x4, x5⟩ n t).length ≤ 40000000 := by unfold linesV; simp; omega
  refine ⟨2 * (linesV h ⟨x1, x2, x3, x4, x5⟩ n t).length + 1 + 262160, ?_⟩
  have hL := lines_some h t x1 x2 x3 x4 x5 n hl
  have hm : ∀ d, cruciblelaw06_Lines.f (262160 + d) h x1 x2 x3 x4 x5 n t = some (linesV h ⟨x1, x2, x3, x4, x5⟩ n t) := fun d => by
    induction d with
    | zero => exact hL
    | succ d ih => exact cruciblelaw06_Lines.mono _ _ _ _ _ _ _ _ _ _ ih
  generalize linesV h ⟨x1, x2, x3, x4, x5⟩ n t = l at *
  unfold cruciblelaw06_AsmNames.f
  rw [show 2 * l.length + 1 + 262160 = 262160 + (2 * l.length + 1) by omega, hm]
  simp only [Option.bind_some]
  rw [own_some l (by omega)]
  simp only [Option.bind_some]
  have := names_l0 b hb h2 l hlen l.length 0 262160 (by omega)
  rw [show 262160 + (2 * l.length + 1) = 2 * l.length + 1 + 262160 by omega]
  simpa using this
end Go.Proofs.Ytdhmnjoceeolcaa.Asm
