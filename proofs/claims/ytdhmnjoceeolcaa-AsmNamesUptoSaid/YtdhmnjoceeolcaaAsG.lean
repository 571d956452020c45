/- asm.Assemble: its answer, and its walk. -/
import Derived.Test.YtdhmnjoceeolcaaAsE
namespace Go.Proofs.Ytdhmnjoceeolcaa.Asm
open Go.RowKit Go.Proofs.YtdhmnjoceeolcaaW.PrintWords Go.Proofs.YtdhmnjoceeolcaaW.PrintLast Go.Proofs.YtdhmnjoceeolcaaW.PrintMore Go.Proofs.Ytdhmnjoceeolcaa.GF
set_option linter.unusedVariables false
set_option linter.unusedSimpArgs false
/-- An instruction's word. -/
def encV (x : S24) : Int := ((isa_Encode.f 7 x.f0 x.f1 x.f2 x.f3 x.f4).getD (0, 1)).1
def encE (x : S24) : Int := ((isa_Encode.f 7 x.f0 x.f1 x.f2 x.f3 x.f4).getD (0, 1)).2
theorem enc_some (x : S24) : isa_Encode.f 7 x.f0 x.f1 x.f2 x.f3 x.f4 = some (encV x, encE x) := by
  have : ∃ r, isa_Encode.f 7 x.f0 x.f1 x.f2 x.f3 x.f4 = some r := by
    obtain ⟨p, sd, sa, sb, bits, sign, is, lo, hi, h⟩ := FactsDec.cl x.f0
    by_cases hok : FactsDec.ok x.f1 x.f2 x.f3 x.f4 sd sa sb is lo hi = true
    · exact ⟨_, FactsDec.isaEnc 0 _ _ _ _ h hok⟩
    · exact ⟨_, FactsDec.isaEncNo 0 _ _ _ _ h hok⟩
  obtain ⟨r, hr⟩ := this
  unfold encV encE
  rw [hr]; rfl
def byt (w : Int) : List Int := [w % 256, (w / 256) % 256, (w / 65536) % 256, (w / 16777216) % 256]
/-- What the first lines are as bytes. -/
def outV (l : List S37) (g : List Bool) : Nat → List Int
  | 0 => []
  | i + 1 => outV l g i ++ (if 0 < (l.getD i z37).f0 then [] else (wordsV l g (l.getD i z37) i).flatMap fun x => byt (encV x))
theorem wordsV_len (l : List S37) (g : List Bool) (x : S37) (i : Nat) : (wordsV l g x i).length ≤ 2 := by unfold wordsV; split; simp; split <;> simp
theorem byt_len (ws : List S24) : (ws.flatMap fun x => byt (encV x)).length = 4 * ws.length := by
  induction ws with
  | nil => rfl
  | cons x ws ih => rw [List.flatMap_cons, List.length_append, ih]; simp [byt]; omega
theorem outV_len (l : List S37) (g : List Bool) : ∀ i, (outV l g i).length ≤ 8 * i
  | 0 => Nat.le_refl _
  | i + 1 => by
    have := outV_len l g i
    unfold outV
    rw [List.length_append]
    split
    · simp; omega
    · rw [byt_len]; have := wordsV_len l g (l.getD i z37) i; omega
/-- Lines as code. -/
def asmV (l : List S37) : ByteArray × Int :=
  if checkV l = 0 then (if 1048576 < 4 * atV l (settle l) l.length then (⟨#[]⟩, 3) else (strOfNums (outV l (settle l) l.length), 0)) else (⟨#[]⟩, checkV l)
theorem check_len (l : List S37) (h : checkV l = 0) : l.length ≤ 262144 := by
  unfold checkV at h
  by_cases h2 : 262144 < l.length
  · rw [if_pos h2] at h; exact absurd h (by decide)
  · omega
theorem lit4 (W : World) (b0 b1 b2 b3 : Int) : (Kd.int .u8).C (W.alloc (.cells #[.int .u8 b0, .int .u8 b1, .int .u8 b2, .int .u8 b3] 5)) (some ⟨W.heap.size, 0, none⟩) 4 [b0, b1, b2, b3] := by
  refine Kd.C_of_reads (d := (0 : Int)) ⟨rfl, by omega, fun _ => ⟨⟨W.heap.size, 0, none⟩, rfl, fun j hj => ?_⟩⟩
  rw [add_plain, blk_cell (blk_new W _)]
  match j, hj with
  | 0, _ => rfl
  | 1, _ => rfl
  | 2, _ => rfl
  | 3, _ => rfl
  | j + 4, h => exact absurd h (by simp)
theorem ret_si {a b : ByteArray} {c d : Int} (h : a = b) (k : c = d) : Ending.returned (.tuple #[.string a, .int .i64 c]) = .returned (.tuple #[.string b, .int .i64 d]) := by rw [h, k]
set_option maxHeartbeats 32000000 in
set_option maxRecDepth 100000 in
theorem assemble_calls {w : World} {A : Option Addr} {l : List S37} {c : Nat} (hL : Aside0 (Kd.C k37 w A l.length l)) :
    Calls Try.prog 8 #[.slice A l.length c] w fun e w' => e = .returned (.tuple #[.string (asmV l).1, .int .i64 (asmV l).2]) ∧ Below w.heap.size w w' := by
  by_cases hc : checkV l = 0
  · have hlen := check_len l hc
    have hck : Calls Try.prog 11 #[.slice A l.length c] w fun e w' => e = .returned (.int .i64 0) ∧ Below w.heap.size w w' := (check_calls hL).mono fun e w' h => by rw [hc] at h; exact h
    have hlong : 1048576 < 4 * atV l (settle l) l.length → Aside0 (asmV l = (⟨#[]⟩, 3)) := fun h => ⟨by unfold asmV; rw [if_pos hc, if_pos h]⟩
    have hshort : 4 * atV l (settle l) l.length ≤ 1048576 → Aside0 (asmV l = (strOfNums (outV l (settle l) l.length), 0)) := fun h => ⟨by unfold asmV; rw [if_pos hc, if_neg (by omega)]⟩
    have hr := atV_range l (settle l) l.length
    replace hc := Aside0.mk hc
    go_enter Try.func8, Try.ntmps8
    go_upto_region 5 with (first | (go_at_call 11; (with_reducible refine hck.mono ?_); rintro e w1 ⟨rfl, hb1⟩; replace hb1 := Aside0.mk hb1) | (go_at_call 17; (with_reducible refine (laid_calls ⟨Kd.C_below hL.out hb1.out⟩ hlen).mono ?_); rintro e w5 ⟨p, ga, gl, m, es, rfl, hY, hes, hb5⟩))
    generalize settle l = g at *
    have y0 := (blk_cell hY.out.bp 0).trans (show _ = some (.slice (some ⟨ga, 0, none⟩) (l.length + 1) (l.length + 1)) from rfl)
    have hca := is_cell hY.out.ba l.length (by rw [hY.out.la]; omega)
    rw [ats_at l g l.length (by omega)] at hca
    have ap1 := add_plain ga l.length
    have q0 : (0 : Int) ≤ (l.length : Int) := by omega
    have q1 : (l.length : Int) < (l.length : Int) + 1 := by omega
    have hw4 : IntKind.i64.wrap (4 * atV l g l.length) = 4 * atV l g l.length := IntWalk.i64_in _ (by omega)
    by_cases hlg : 1048576 < 4 * atV l g l.length
    · have hv := hlong hlg
      clear hlong hshort
      have hlg' : decide (1048576 < 4 * atV l g l.length) = true := decide_eq_true hlg
      replace hlg := Aside0.mk hlg
      replace hr := Aside0.mk hr
      go_wp2_with fail
      go_ret2
      exact ⟨by rw [hv.out]; rfl, below_step hb1.out hb5.out⟩
    · have hv := hshort (by omega)
      clear hlong hshort
      have hlg' : decide (1048576 < 4 * atV l g l.length) = false := decide_eq_false hlg
      replace hlg := Aside0.mk hlg
      replace hr := Aside0.mk hr
      go_upto_region 8 with (fail)
      clear hck hw4 hca ap1 hlg' y0 q0 q1
      have hB5 := Aside0.mk (below_step hb1.out hb5.out)
      have hL5 := Aside0.mk (Kd.C_below hL.out hB5.out)
      have hR0 : Aside0 (Kd.R (Kd.int .u8) 5 w5 w5.heap.size (fun _ => True) (.slice none 0 0) []) := ⟨Kd.R_nil _ _ _ _ _⟩
      have hE0 : Aside0 (Below w5.heap.size w5 w5) := ⟨Below.refl _ _⟩
      have hu5 := info5
      clear hb1 hb5
      go_wp2_with fail
      go_loopw [6, 32] (fun u6 u32 wr => ∃ i : Nat, i ≤ l.length ∧ u32 = .int .i64 i ∧ Aside0 (Kd.R (Kd.int .u8) 5 wr w5.heap.size (fun _ => True) u6 (outV l g i)) ∧ Aside0 (Below w5.heap.size w5 wr)) (fun _ u _ => l.length - (intOf u).toNat)
      case atStart => exact ⟨0, Nat.zero_le _, rfl, hR0, hE0⟩
      case round =>
        clear hR0 hE0
        obtain ⟨i, hi, rfl, hR, hb⟩ := hrel
        by_cases hlt : i < l.length
        · obtain ⟨ad, ea, c0, c1, c2, c3, c4, c5, c6⟩ := at_T37 (Kd.C_below hL5.out hb.out) (i : Int) (by omega) (by omega)
          subst ea
          simp only [Int.toNat_natCast, rd_L] at c0 c1 c2 c3 c4 c5 c6
          have hou : Aside0 (outV l g (i + 1) = outV l g i ++ (if 0 < (l.getD i z37).f0 then [] else (wordsV l g (l.getD i z37) i).flatMap fun x => byt (encV x))) := ⟨rfl⟩
          have hol := Aside0.mk (outV_len l g i)
          have hX := Aside0.mk (blk_new wr (lb (l.getD i z37)))
          replace hR := Aside0.mk (Kd.R_alloc hR.out (lb (l.getD i z37)))
          replace hb := Aside0.mk (below_alloc hb.out (lb (l.getD i z37)))
          have q0 : (0 : Int) ≤ (i : Int) := by omega
          have q1 : (i : Int) < (l.length : Int) := by omega
          have hwc := fun (W : World) (h : Below w5.heap.size w5 W) => Aside0.mk (words_calls hlen ⟨hY.out.below h⟩ hes (l.getD i z37) i hlt)
          have hwl := Aside0.mk (wordsV_len l g (l.getD i z37) i)
          generalize l.getD i z37 = x at *
          go_upto_region 11 with (fail)
          generalize wr.alloc (lb x) = W at *
          have p0 := (blk_cell hX.out 0).trans (show _ = some (.int .i64 x.f0) from rfl)
          by_cases hx0 : 0 < x.f0
          · rw [if_pos hx0, List.append_nil] at hou
            have hx' : decide (0 < x.f0) = true := decide_eq_true hx0
            replace hx0 := Aside0.mk hx0
            rw [← hou.out] at hR
            go_wp2_with fail
            go_roundw
            case rel => exact ⟨i + 1, by omega, by go_num, hR, hb⟩
            case measure => simp [intOf]; omega
          · rw [if_neg hx0] at hou
            have hx' : decide (0 < x.f0) = false := decide_eq_false hx0
            replace hx0 := Aside0.mk hx0
            have p1 := (blk_cell hX.out 1).trans (show _ = some (.int .i64 x.f1.f0) from rfl)
            have p2 := (blk_cell hX.out 2).trans (show _ = some (.int .i64 x.f1.f1) from rfl)
            have p3 := (blk_cell hX.out 3).trans (show _ = some (.int .i64 x.f1.f2) from rfl)
            have p4 := (blk_cell hX.out 4).trans (show _ = some (.int .i64 x.f1.f3) from rfl)
            have p5 := (blk_cell hX.out 5).trans (show _ = some (.int .i32 x.f1.f4) from rfl)
            have p6 := (blk_cell hX.out 6).trans (show _ = some (.int .i64 x.f2) from rfl)
            go_upto_region 13 with (go_at_call 18; (with_reducible refine (hwc _ hb.out).out.mono ?_); rintro e w6 ⟨bw, rfl, hbw, hb6⟩)
            replace hR := Aside0.mk (Kd.R_below hR.out hb6.out)
            replace hb := Aside0.mk (below_step hb.out hb6.out)
            clear hX p0 p1 p2 p3 p4 p5 p6 hb6 hwc
            generalize wordsV l g x i = ws at *
            have hRj : Aside0 (Kd.R (Kd.int .u8) 5 w6 w5.heap.size (fun _ => True) u6 (outV l g i ++ (ws.take 0).flatMap fun x => byt (encV x))) := ⟨by rw [List.take_zero, List.flatMap_nil, List.append_nil]; exact hR.out⟩
            generalize outV l g i = ob at *
            go_wp2_with fail
            clear hR
            go_loopw [6, 45] (fun u6 u45 wr => ∃ j : Nat, j ≤ ws.length ∧ u45 = .int .i64 j ∧ Aside0 (Kd.R (Kd.int .u8) 5 wr w5.heap.size (fun _ => True) u6 (ob ++ (ws.take j).flatMap fun x => byt (encV x))) ∧ Aside0 (wr.heap[bw]? = some (.cells (insA ws) 24 (0, 0))) ∧ Aside0 (Below w5.heap.size w5 wr)) (fun _ u _ => ws.length - (intOf u).toNat)
            case atStart => exact ⟨0, Nat.zero_le _, rfl, hRj, hbw, hb⟩
            case round =>
              clear hRj hbw hb
              obtain ⟨j, hj, rfl, hR, hbw, hb⟩ := hrel
              by_cases jlt : j < ws.length
              · have d0 : wr.cell? ⟨bw, j * 5, none⟩ = some (.int .i64 (ws.getD j z24).f0) := ins_cell hbw.out j 0 jlt _ rfl
                have d1 : wr.cell? ⟨bw, j * 5 + 1, none⟩ = some (.int .i64 (ws.getD j z24).f1) := ins_cell hbw.out j 1 jlt _ rfl
                have d2 : wr.cell? ⟨bw, j * 5 + 2, none⟩ = some (.int .i64 (ws.getD j z24).f2) := ins_cell hbw.out j 2 jlt _ rfl
                have d3 : wr.cell? ⟨bw, j * 5 + 3, none⟩ = some (.int .i64 (ws.getD j z24).f3) := ins_cell hbw.out j 3 jlt _ rfl
                have d4 : wr.cell? ⟨bw, j * 5 + 4, none⟩ = some (.int .i32 (ws.getD j z24).f4) := ins_cell hbw.out j 4 jlt _ rfl
                have ap5 := add_plain bw (j * 5)
                have htk := Aside0.mk (take_snoc ws j z24 jlt)
                have hen := Aside0.mk (enc_some (ws.getD j z24))
                have hbl : Aside0 ((ob ++ (ws.take j).flatMap fun x => byt (encV x)).length ≤ 8 * 262144 + 8) := ⟨by rw [List.length_append, byt_len, List.length_take]; have := hol.out; have := hwl.out; omega⟩
                have q4 : (j : Int) < 2 := by have := hwl.out; omega
                have q2 : (0 : Int) ≤ (j : Int) := by omega
                have q3 : (j : Int) < (ws.length : Int) := by omega
                have hZ := Aside0.mk (blk_new wr (ib (ws.getD j z24)))
                replace hR := Aside0.mk (Kd.R_alloc hR.out (ib (ws.getD j z24)))
                replace hb := Aside0.mk (below_alloc hb.out (ib (ws.getD j z24)))
                replace hbw := Aside0.mk (blk_alloc hbw.out (ib (ws.getD j z24)))
                generalize ws.getD j z24 = y at *
                go_upto_region 15 with (fail)
                generalize wr.alloc (ib y) = W2 at *
                clear d0 d1 d2 d3 d4
                have z0 := (blk_cell hZ.out 0).trans (show _ = some (.int .i64 y.f0) from rfl)
                have z1 := (blk_cell hZ.out 1).trans (show _ = some (.int .i64 y.f1) from rfl)
                have z2 := (blk_cell hZ.out 2).trans (show _ = some (.int .i64 y.f2) from rfl)
                have z3 := (blk_cell hZ.out 3).trans (show _ = some (.int .i64 y.f3) from rfl)
                have z4 := (blk_cell hZ.out 4).trans (show _ = some (.int .i32 y.f4) from rfl)
                go_upto_region 16 with (go_at_call 19; (with_reducible refine (isa_Encode.calls 7 _ _ _ _ _ (encV y) (encE y) _ hen.out).mono ?_); rintro e w7 ⟨rfl, hb7⟩; replace hb7 := Aside0.mk hb7)
                clear z0 z1 z2 z3 z4 hZ
                replace hR := Aside0.mk (Kd.R_below hR.out hb7.out)
                replace hb := Aside0.mk (below_step hb.out hb7.out)
                replace hbw := Aside0.mk (blk_below hbw.out hb7.out)
                have hadd : Aside0 ((ws.take (j + 1)).flatMap (fun x => byt (encV x)) = (ws.take j).flatMap (fun x => byt (encV x)) ++ byt (encV y)) := ⟨by rw [htk.out, List.flatMap_append]; simp⟩
                generalize (ws.take j).flatMap (fun x => byt (encV x)) = oj at *
                generalize hoj2 : (ws.take (j + 1)).flatMap (fun x => byt (encV x)) = oj2 at *
                replace hoj2 := Aside0.mk hoj2
                generalize encV y = v at *
                have hlit := Aside0.mk (lit4 w7 (v % 256) (v / 256 % 256) (v / 65536 % 256) (v / 16777216 % 256))
                replace hR := Aside0.mk (Kd.R_alloc hR.out (.cells #[.int .u8 (v % 256), .int .u8 (v / 256 % 256), .int .u8 (v / 65536 % 256), .int .u8 (v / 16777216 % 256)] 5))
                replace hb := Aside0.mk (below_alloc hb.out (.cells #[.int .u8 (v % 256), .int .u8 (v / 256 % 256), .int .u8 (v / 65536 % 256), .int .u8 (v / 16777216 % 256)] 5))
                replace hbw := Aside0.mk (blk_alloc hbw.out (.cells #[.int .u8 (v % 256), .int .u8 (v / 256 % 256), .int .u8 (v / 65536 % 256), .int .u8 (v / 16777216 % 256)] 5))
                go_wp2_with (at_builtin; (refine Kd.R_append_rows (Kd.int .u8) (Rr := (Kd.int .u8).K (w7.alloc (.cells #[.int .u8 (v % 256), .int .u8 (v / 256 % 256), .int .u8 (v / 65536 % 256), .int .u8 (v / 16777216 % 256)] 5))) (w0 := w5) w5.heap.size rfl (.tmp 54) (.tmp 66) 51 5 (.int .u8 0) 1 rfl Try.underlying51 hu5 rfl (by decide) (by omega) u6 (ob ++ oj) (byt v) _ _ _ (fun _ => True) (fun _ => False) rfl rfl ?aO ?aR (fun _ _ h => h) (fun _ h => h.elim) ?aF ?aB ?aS ?aL ?_; (case aO => exact hR.out); (case aR => exact hlit.out); (case aF => exact fun _ _ => trivial); (case aB => exact hb.out); (case aS => exact below_size hb.out); (case aL => have := hbl.out; omega); intro v1 w9 ho hb9 hg hat; have hR2 := Aside0.mk ho; have hB2 := Aside0.mk hb9; have hbw2 := Aside0.mk (blk_grown hbw.out hg (Kd.R_ne hR.out hbw.out (by decide))); clear ho hb9 hg hat))
                rw [List.append_assoc, ← hadd.out] at hR2
                go_roundw
                case rel => exact ⟨j + 1, by omega, by go_num, by rw [hoj2.out]; exact hR2, hbw2, hB2⟩
                case measure => simp [intOf]; omega
              · obtain rfl : j = ws.length := by omega
                rw [List.take_length, ← hou.out] at hR
                go_wp2_with fail
                go_roundw
                case rel => exact ⟨i + 1, by omega, by go_num, hR, hb⟩
                case measure => simp [intOf]; omega
        · obtain rfl : i = l.length := by omega
          obtain ⟨Ab, cb, eb⟩ := Kd.R_slice hR.out
          subst eb
          have hcv := Kd.C_string (P := Try.prog) (src := 51) (dst := 9) Try.underlying51 Try.underlying5 Try.underlying9 ((Kd.R_reads' hR.out).2.2) (c := cb)
          go_wp2_with fail
          go_ret2
          exact ⟨by rw [hv.out]; rfl, below_step hB5.out hb.out⟩
  · have hv : Aside0 (asmV l = (⟨#[]⟩, checkV l)) := ⟨by unfold asmV; rw [if_neg hc]⟩
    have hck := check_calls (c := c) hL
    have hne : (checkV l != 0) = true := by simpa using hc
    generalize hcv : checkV l = cv at *
    replace hc := Aside0.mk hc
    replace hcv := Aside0.mk hcv
    go_enter Try.func8, Try.ntmps8
    go_wp2_with (go_at_call 11; (with_reducible refine hck.mono ?_); rintro e w1 ⟨rfl, hb1⟩; replace hb1 := Aside0.mk hb1)
    go_ret2
    exact ⟨by rw [hv.out]; rfl, hb1.out⟩
end Go.Proofs.Ytdhmnjoceeolcaa.Asm
