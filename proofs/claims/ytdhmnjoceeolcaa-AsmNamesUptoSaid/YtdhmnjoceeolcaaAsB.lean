/- asm.Check: its answer, and its walk. -/
import Derived.Test.YtdhmnjoceeolcaaAsA
import Derived.Test.YtdhmnjoceeolcaaAsF
import Derived.WalkKit
import Derived.KernelRfl
import Derived.WalkSpells
import Derived.Deep.QuietTactic
import Derived.BigQuiet
namespace Go.Proofs.Ytdhmnjoceeolcaa.Asm
open Go.RowKit Go.Proofs.YtdhmnjoceeolcaaW.PrintWords Go.Proofs.YtdhmnjoceeolcaaW.PrintLast Go.Proofs.YtdhmnjoceeolcaaW.PrintMore Go.Proofs.Ytdhmnjoceeolcaa.GF
set_option linter.unusedVariables false
set_option linter.unusedSimpArgs false
/-- Whether a line may be. -/
def mayV (x : S37) : Bool := (asm_may.f 7 x.f0 x.f1.f0 x.f1.f1 x.f1.f2 x.f1.f3 x.f1.f4 x.f2).getD false
theorem check_some (op d a b i : Int) : ∃ r, isa_Check.f 7 op d a b i = some r := by
  obtain ⟨p, sd, sa, sb, bits, sign, is, lo, hi, h⟩ := FactsDec.cl op
  exact ⟨_, FactsDec.check 0 d a b i h⟩
theorem may_some (x : S37) : asm_may.f 7 x.f0 x.f1.f0 x.f1.f1 x.f1.f2 x.f1.f3 x.f1.f4 x.f2 = some (mayV x) := by
  have : ∃ r, asm_may.f 7 x.f0 x.f1.f0 x.f1.f1 x.f1.f2 x.f1.f3 x.f1.f4 x.f2 = some r := by
    obtain ⟨r, hr⟩ := check_some x.f1.f0 x.f1.f1 x.f1.f2 x.f1.f3 x.f1.f4
    unfold asm_may.f asm_branches.f
    rw [hr]
    simp only [Option.bind_some]
    repeat' split
    all_goals first | exact ⟨_, rfl⟩ | (simp only [Option.bind_some]; split <;> exact ⟨_, rfl⟩)
  obtain ⟨r, hr⟩ := this
  unfold mayV
  rw [hr]; rfl
/-- How many lines have a label. -/
def cnt (l : List S37) (k : Int) : Nat := l.countP fun x => x.f0 == k
def stands : List S37 → Mm → Mm
  | [], es => es
  | x :: l, es => stands l (up es x.f0 ((get es x.f0).getD 0 + 1))
def stN (l : List S37) (i : Nat) : Mm := stands (l.take i) []
theorem stands_snoc (x : S37) : ∀ (l : List S37) (es : Mm), stands (l ++ [x]) es = up (stands l es) x.f0 ((get (stands l es) x.f0).getD 0 + 1)
  | [], es => rfl
  | y :: l, es => by rw [List.cons_append, stands, stands_snoc x l, stands]
theorem take_snoc {α : Type} (l : List α) (i : Nat) (d : α) (h : i < l.length) : l.take (i + 1) = l.take i ++ [l.getD i d] := by
  rw [List.take_succ_eq_append_getElem h, List.getD_eq_getElem?_getD, List.getElem?_eq_getElem h]; rfl
theorem stN_step (l : List S37) (i : Nat) (h : i < l.length) : stN l (i + 1) = up (stN l i) (l.getD i z37).f0 ((get (stN l i) (l.getD i z37).f0).getD 0 + 1) := by
  unfold stN
  rw [take_snoc l i z37 h, stands_snoc]
theorem stN_get (l : List S37) (k : Int) : ∀ i, i ≤ l.length → (get (stN l i) k).getD 0 = (cnt (l.take i) k : Int)
  | 0, _ => rfl
  | i + 1, h => by
    rw [stN_step l i (by omega), get_up, take_snoc l i z37 (by omega), cnt, List.countP_append, ← cnt]
    have hi := stN_get l k i (by omega)
    by_cases e : k = (l.getD i z37).f0
    · subst e
      rw [if_pos rfl, stN_get l _ i (by omega)]
      simp [List.countP_cons]
    · rw [if_neg e, hi]
      have : ((l.getD i z37).f0 == k) = false := beq_eq_false_iff_ne.2 fun h => e h.symm
      generalize l.getD i z37 = y at *
      simp [List.countP_cons, this]
/-- Whether a line's label is there twice, or where it goes is not there. -/
def badV (l : List S37) (x : S37) : Bool := (decide (0 < x.f0) && decide (1 < (cnt l x.f0 : Int))) || (decide (0 < x.f2) && decide ((cnt l x.f2 : Int) = 0))
def checkV (l : List S37) : Int := if 262144 < l.length then 3 else if l.all mayV = true then (if l.any (badV l) = true then 60 else 0) else 1
theorem cnt_le (l : List S37) (k : Int) : cnt l k ≤ l.length := List.countP_le_length
theorem all_take {α : Type} (l : List α) (p : α → Bool) (d : α) (i : Nat) (h : i < l.length) (h1 : (l.take i).all p = true) (h2 : p (l.getD i d) = true) : (l.take (i + 1)).all p = true := by
  rw [take_snoc l i d h, List.all_append, h1]; generalize l.getD i d = y at *; simp [h2]
theorem any_take {α : Type} (l : List α) (p : α → Bool) (d : α) (i : Nat) (h : i < l.length) (h1 : (l.take i).any p = false) (h2 : p (l.getD i d) = false) : (l.take (i + 1)).any p = false := by
  rw [take_snoc l i d h, List.any_append, h1]; generalize l.getD i d = y at *; simp [h2]
theorem getD_mem {α : Type} (l : List α) (d : α) (i : Nat) (h : i < l.length) : l.getD i d ∈ l := by
  rw [List.getD_eq_getElem?_getD, List.getElem?_eq_getElem h]; exact List.getElem_mem h
theorem all_no {α : Type} (l : List α) (p : α → Bool) (d : α) (i : Nat) (h : i < l.length) (h2 : p (l.getD i d) = false) : ¬ l.all p = true := fun e => by
  rw [List.all_eq_true] at e
  rw [e _ (getD_mem l d i h)] at h2; cases h2
theorem any_yes {α : Type} (l : List α) (p : α → Bool) (d : α) (i : Nat) (h : i < l.length) (h2 : p (l.getD i d) = true) : l.any p = true := List.any_eq_true.2 ⟨_, getD_mem l d i h, h2⟩
abbrev lb (x : S37) : Obj := .cells #[.int .i64 x.f0, .int .i64 x.f1.f0, .int .i64 x.f1.f1, .int .i64 x.f1.f2, .int .i64 x.f1.f3, .int .i32 x.f1.f4, .int .i64 x.f2] 37 (0, 0)
theorem rd_L (l : List S37) (i : Nat) : rd_T37 l (i : Int) = l.getD i z37 := by unfold rd_T37; rw [Int.toNat_natCast]
theorem ret_i {a b : Int} (h : a = b) : Ending.returned (.int .i64 a) = .returned (.int .i64 b) := by rw [h]
set_option maxHeartbeats 16000000 in
set_option maxRecDepth 100000 in
theorem check_calls {w : World} {A : Option Addr} {l : List S37} {c : Nat} (hL : Aside0 (Kd.C k37 w A l.length l)) :
    Calls Try.prog 11 #[.slice A l.length c] w fun e w' => e = .returned (.int .i64 (checkV l)) ∧ Below w.heap.size w w' := by
  have hmx := Kd.C_max hL.out
  have hmm := @run_makeMap Try.prog
  by_cases hlen : 262144 < l.length
  · have hv : Aside0 (checkV l = 3) := ⟨by unfold checkV; rw [if_pos hlen]⟩
    go_enter Try.func11, Try.ntmps11
    go_wp2_with fail
    go_ret
    exact ⟨ret_i hv.out.symm, Below.refl _ _⟩
  have hle : l.length ≤ 262144 := by omega
  have hno : ∀ i, i < l.length → mayV (l.getD i z37) = false → Aside0 (checkV l = 1) := fun i h h2 => ⟨by unfold checkV; rw [if_neg hlen, if_neg (all_no l mayV z37 i h h2)]⟩
  have hb0 : Aside0 (Below w.heap.size w (w.alloc (.map #[] 0))) := ⟨below_alloc (Below.refl _ _) _⟩
  have hM0 : Aside0 (Mp (w.alloc (.map #[] 0)) w.heap.size (stN l 0)) := ⟨Mp.new w⟩
  go_enter Try.func11, Try.ntmps11
  go_upto_region 4 with (fail)
  generalize w.alloc (.map #[] 0) = W0 at *
  go_wp2_with fail
  go_loopw [14] (fun u14 wr => ∃ i : Nat, i ≤ l.length ∧ u14 = .int .i64 i ∧ Aside0 (Below w.heap.size w wr) ∧ Aside0 (Mp wr w.heap.size (stN l i)) ∧ Aside0 ((l.take i).all mayV = true)) (fun u _ => l.length - (intOf u).toNat)
  case atStart => exact ⟨0, Nat.zero_le _, rfl, hb0, hM0, ⟨rfl⟩⟩
  case round =>
    clear hb0 hM0
    obtain ⟨i, hi, rfl, hb, hM, hall⟩ := hrel
    by_cases hlt : i < l.length
    · obtain ⟨ad, ea, a0, a1, a2, a3, a4, a5, a6⟩ := at_T37 (Kd.C_below hL.out hb.out) (i : Int) (by omega) (by omega)
      subst ea
      simp only [Int.toNat_natCast, rd_L] at a0 a1 a2 a3 a4 a5 a6
      have hX := Aside0.mk (blk_new wr (lb (l.getD i z37)))
      have hB := Aside0.mk (below_step hb.out (below_alloc (Below.refl wr.heap.size wr) (lb (l.getD i z37))))
      replace hM := Aside0.mk (hM.out.below (below_alloc (Below.refl wr.heap.size wr) (lb (l.getD i z37))))
      have q0 : (0 : Int) ≤ (i : Int) := by omega
      have q1 : (i : Int) < (l.length : Int) := by omega
      have hms := Aside0.mk (may_some (l.getD i z37))
      have hst := Aside0.mk (stN_step l i hlt)
      have hcn := Aside0.mk (stN_get l (l.getD i z37).f0 i hi)
      have hcb : Aside0 (cnt (l.take i) (l.getD i z37).f0 ≤ 262144) := ⟨by have := cnt_le (l.take i) (l.getD i z37).f0; rw [List.length_take] at this; omega⟩
      have hno2 := hno i hlt
      have hal2 := fun h => Aside0.mk (all_take l mayV z37 i hlt hall.out h)
      clear hno hall
      generalize l.getD i z37 = x at *
      go_upto_region 7 with (fail)
      generalize wr.alloc (lb x) = W at *
      have p0 := (blk_cell hX.out 0).trans (show _ = some (.int .i64 x.f0) from rfl)
      have p1 := (blk_cell hX.out 1).trans (show _ = some (.int .i64 x.f1.f0) from rfl)
      have p2 := (blk_cell hX.out 2).trans (show _ = some (.int .i64 x.f1.f1) from rfl)
      have p3 := (blk_cell hX.out 3).trans (show _ = some (.int .i64 x.f1.f2) from rfl)
      have p4 := (blk_cell hX.out 4).trans (show _ = some (.int .i64 x.f1.f3) from rfl)
      have p5 := (blk_cell hX.out 5).trans (show _ = some (.int .i32 x.f1.f4) from rfl)
      have p6 := (blk_cell hX.out 6).trans (show _ = some (.int .i64 x.f2) from rfl)
      cases hmv : mayV x
      · have hq := hno2 hmv
        rw [hmv] at hms
        clear hno2 hal2
        replace hmv := Aside0.mk hmv
        go_wp2_with (go_at_call 23; (with_reducible refine (asm_may.calls 7 _ _ _ _ _ _ _ false _ hms.out).mono ?_); rintro e w1 ⟨rfl, hb1⟩; replace hb1 := Aside0.mk hb1)
        go_ret
        exact ⟨ret_i hq.out.symm, below_step hB.out hb1.out⟩
      · have hq := hal2 hmv
        rw [hmv] at hms
        clear hno2 hal2
        replace hmv := Aside0.mk hmv
        go_upto_region 9 with (go_at_call 23; (with_reducible refine (asm_may.calls 7 _ _ _ _ _ _ _ true _ hms.out).mono ?_); rintro e w1 ⟨rfl, hb1⟩; replace hb1 := Aside0.mk hb1)
        clear p0 p1 p2 p3 p4 p5 p6
        have hB2 := Aside0.mk (below_step hB.out hb1.out)
        replace hM := Aside0.mk (hM.out.below hb1.out)
        have p0 := (blk_cell (blk_below hX.out hb1.out) 0).trans (show _ = some (.int .i64 x.f0) from rfl)
        have hlk := look hM.out x.f0
        have hpt := put hM.out x.f0 ((get (stN l i) x.f0).getD 0 + 1)
        rw [hcn.out] at hlk hpt
        have hB3 := Aside0.mk (put_below hB2.out hM.out (Nat.le_refl _) x.f0 ((cnt (l.take i) x.f0 : Int) + 1))
        have hM3 := Aside0.mk (put_mp hM.out x.f0 ((get (stN l i) x.f0).getD 0 + 1))
        rw [← hst.out, hcn.out] at hM3
        have hwr : IntKind.i64.wrap ((cnt (l.take i) x.f0 : Int) + 1) = (cnt (l.take i) x.f0 : Int) + 1 := IntWalk.i64_in _ (by have := hcb.out; omega)
        clear hM hst hcn
        go_wp2_with fail
        go_roundw
        case rel => exact ⟨i + 1, by omega, by go_num, hB3, hM3, hq⟩
        case measure => simp [intOf]; omega
    · obtain rfl : i = l.length := by omega
      rw [List.take_length] at hall
      have hok : Aside0 (∀ b, l.any (badV l) = b → checkV l = if b = true then 60 else 0) := ⟨fun b hb => by unfold checkV; rw [if_neg hlen, if_pos hall.out, hb]⟩
      have hget := Aside0.mk (fun k => by have := stN_get l k l.length (Nat.le_refl _); rwa [List.take_length] at this : ∀ k, (get (stN l l.length) k).getD 0 = (cnt l k : Int))
      clear hno hall
      go_wp2_with fail
      go_loopw [29] (fun u29 wr => ∃ i : Nat, i ≤ l.length ∧ u29 = .int .i64 i ∧ Aside0 (Below w.heap.size w wr) ∧ Aside0 (Mp wr w.heap.size (stN l l.length)) ∧ Aside0 ((l.take i).any (badV l) = false)) (fun u _ => l.length - (intOf u).toNat)
      case atStart => exact ⟨0, Nat.zero_le _, rfl, hb, hM, ⟨rfl⟩⟩
      case round =>
        clear hb hM
        obtain ⟨i, hi, rfl, hb, hM, hall⟩ := hrel
        by_cases hlt : i < l.length
        · obtain ⟨ad, ea, a0, a1, a2, a3, a4, a5, a6⟩ := at_T37 (Kd.C_below hL.out hb.out) (i : Int) (by omega) (by omega)
          subst ea
          simp only [Int.toNat_natCast, rd_L] at a0 a1 a2 a3 a4 a5 a6
          have hX := Aside0.mk (blk_new wr (lb (l.getD i z37)))
          have hB := Aside0.mk (below_step hb.out (below_alloc (Below.refl wr.heap.size wr) (lb (l.getD i z37))))
          replace hM := Aside0.mk (hM.out.below (below_alloc (Below.refl wr.heap.size wr) (lb (l.getD i z37))))
          have q0 : (0 : Int) ≤ (i : Int) := by omega
          have q1 : (i : Int) < (l.length : Int) := by omega
          have hany := fun h => Aside0.mk (any_take l (badV l) z37 i hlt hall.out h)
          have hyes := fun h => Aside0.mk (hok.out true (any_yes l (badV l) z37 i hlt h))
          have hl1 := look hM.out (l.getD i z37).f0
          have hl2 := look hM.out (l.getD i z37).f2
          rw [hget.out] at hl1 hl2
          clear hall
          generalize l.getD i z37 = x at *
          go_upto_region 14 with (fail)
          generalize wr.alloc (lb x) = W at *
          have hB2 := hB
          have p0 := (blk_cell hX.out 0).trans (show _ = some (.int .i64 x.f0) from rfl)
          have p6 := (blk_cell hX.out 6).trans (show _ = some (.int .i64 x.f2) from rfl)
          by_cases c1 : 0 < x.f0
          · by_cases c2 : 1 < (cnt l x.f0 : Int)
            · have hq := hyes (by skip; simp only [badV, Bool.or_eq_true, Bool.and_eq_true, decide_eq_true_eq]; omega)
              clear hyes hany
              go_wp2_with fail
              go_ret
              exact ⟨ret_i hq.out.symm, hB2.out⟩
            · have e2 : decide (1 < (cnt l x.f0 : Int)) = false := decide_eq_false c2
              replace c2 := Aside0.mk c2
              by_cases c3 : 0 < x.f2
              · by_cases c4 : (cnt l x.f2 : Int) = 0
                · have e4 : ((cnt l x.f2 : Int) == 0) = true := by simpa using c4
                  replace c4 := Aside0.mk c4
                  have hq := hyes (by have h4 := c4.out; simp only [badV, Bool.or_eq_true, Bool.and_eq_true, decide_eq_true_eq]; omega)
                  clear hyes hany
                  go_wp2_with fail
                  go_ret
                  exact ⟨ret_i hq.out.symm, hB2.out⟩
                · have e4 : ((cnt l x.f2 : Int) == 0) = false := by simpa using c4
                  replace c4 := Aside0.mk c4
                  go_wp2_with fail
                  go_roundw
                  case rel => exact ⟨i + 1, by omega, by go_num, hB2, hM, hany (by have h4 := c4.out; have h2 := c2.out; simp only [badV, Bool.or_eq_false_iff, Bool.and_eq_false_iff, decide_eq_false_iff_not]; omega)⟩
                  case measure => simp [intOf]; omega
              · have e3 : decide (0 < x.f2) = false := decide_eq_false c3
                replace c3 := Aside0.mk c3
                go_wp2_with fail
                go_roundw
                case rel => exact ⟨i + 1, by omega, by go_num, hB2, hM, hany (by have h3 := c3.out; have h2 := c2.out; simp only [badV, Bool.or_eq_false_iff, Bool.and_eq_false_iff, decide_eq_false_iff_not]; omega)⟩
                case measure => simp [intOf]; omega
          · have e1 : decide (0 < x.f0) = false := decide_eq_false c1
            replace c1 := Aside0.mk c1
            by_cases c3 : 0 < x.f2
            · by_cases c4 : (cnt l x.f2 : Int) = 0
              · have e4 : ((cnt l x.f2 : Int) == 0) = true := by simpa using c4
                replace c4 := Aside0.mk c4
                have hq := hyes (by have h4 := c4.out; simp only [badV, Bool.or_eq_true, Bool.and_eq_true, decide_eq_true_eq]; omega)
                clear hyes hany
                go_wp2_with fail
                go_ret
                exact ⟨ret_i hq.out.symm, hB2.out⟩
              · have e4 : ((cnt l x.f2 : Int) == 0) = false := by simpa using c4
                replace c4 := Aside0.mk c4
                go_wp2_with fail
                go_roundw
                case rel => exact ⟨i + 1, by omega, by go_num, hB2, hM, hany (by have h4 := c4.out; have h1 := c1.out; simp only [badV, Bool.or_eq_false_iff, Bool.and_eq_false_iff, decide_eq_false_iff_not]; omega)⟩
                case measure => simp [intOf]; omega
            · have e3 : decide (0 < x.f2) = false := decide_eq_false c3
              replace c3 := Aside0.mk c3
              go_wp2_with fail
              go_roundw
              case rel => exact ⟨i + 1, by omega, by go_num, hB2, hM, hany (by have h3 := c3.out; have h1 := c1.out; simp only [badV, Bool.or_eq_false_iff, Bool.and_eq_false_iff, decide_eq_false_iff_not]; omega)⟩
              case measure => simp [intOf]; omega
        · obtain rfl : i = l.length := by omega
          rw [List.take_length] at hall
          have hq := Aside0.mk (hok.out false hall.out)
          go_wp2_with fail
          go_ret
          exact ⟨ret_i hq.out.symm, hb.out⟩
end Go.Proofs.Ytdhmnjoceeolcaa.Asm
