/- linear.Row, walked. -/
import Derived.Test.YtidhkicpandmbaaRwD
namespace Go.Proofs.Ytidhkicpandmbaa.RwB
open Go.RowKit Go.Shelf Go.Proofs.YtidhkicpandmbaaW.PrintWords Go.Proofs.YtidhkicpandmbaaW.PrintLast Go.Proofs.YtidhkicpandmbaaW.PrintMore Go.Proofs.Ytidhkicpandmbaa.GF Go.Proofs.Ytidhkicpandmbaa.IrA Go.Proofs.Ytidhkicpandmbaa.RwA Go.Proofs.Ytidhkicpandmbaa.RwB Go.Proofs.Ytidhkicpandmbaa.RwC
set_option linter.unusedVariables false
set_option linter.unusedSimpArgs false
attribute [local go_sem] Oper.semAt_some
def ToB (bs : List S39) (i : Nat) : List Int := (bs.getD i z39).f3
/-- A block's edges, as they are asked for a kind of ends. -/
def blkE (bs : List S39) (r : List Bool) (kind : Int) (i : Nat) : List (Nat × Int) := if r.getD i false = true ∧ (bs.getD i z39).f1 = kind then (upto (bk (ToB bs i)) (ToB bs i).length).map (fun p => (i, p.2)) else []
def kindE (bs : List S39) (r : List Bool) (kind : Int) (m : Nat) : List (Nat × Int) := (List.range m).flatMap (blkE bs r kind)
def allE (bs : List S39) (r : List Bool) (j : Nat) : List (Nat × Int) := if j = 0 then [] else if j = 1 then kindE bs r 1 bs.length else kindE bs r 1 bs.length ++ kindE bs r 2 bs.length
theorem kindE_zero (bs : List S39) (r : List Bool) (kind : Int) : kindE bs r kind 0 = [] := rfl
theorem kindE_succ (bs : List S39) (r : List Bool) (kind : Int) (m : Nat) : kindE bs r kind (m + 1) = kindE bs r kind m ++ blkE bs r kind m := by simp [kindE, List.range_succ]
theorem allE_succ (bs : List S39) (r : List Bool) (j : Nat) (h : j < 2) : allE bs r (j + 1) = allE bs r j ++ kindE bs r ((j : Int) + 1) bs.length := by
  match j, h with
  | 0, _ => rfl
  | 1, _ => rfl
theorem reached_length (bs : List S39) : (reached bs).length = bs.length := by
  unfold reached
  split
  · simp; omega
  · rename_i h
    have key : ∀ k (st : Rst), st.1.length = bs.length → (fin bs k st).length = bs.length := by
      intro k
      induction k with
      | zero => intro st h; exact h
      | succ k ih =>
        intro st h
        simp only [fin]
        split
        · exact h
        · refine ih _ ?_
          unfold turn
          have : ∀ (ts : List Int) (st : Rst), (ts.foldl IrA.stepT st).1.length = st.1.length := by
            intro ts
            induction ts with
            | nil => intro st; rfl
            | cons t ts ih =>
              intro st
              rw [List.foldl_cons, ih]
              unfold IrA.stepT
              split
              · split <;> simp
              · rfl
          rw [this]; exact h
    exact key _ _ (by simp)
def EnB (bs : List S39) (i : Nat) : Int := (bs.getD i z39).f1
theorem blkE_mem {bs : List S39} {r : List Bool} {kind : Int} {x : Nat} {t : Int} (hr : r.getD x false = true) (hk : EnB bs x = kind) (ht : t ∈ ToB bs x) : (x, t) ∈ blkE bs r kind x := by
  unfold blkE
  rw [if_pos ⟨hr, hk⟩]
  obtain ⟨p, hp, e⟩ := upto_mem _ t ht
  exact List.mem_map.2 ⟨p, hp, by rw [e]⟩
theorem kindE_mem {bs : List S39} {r : List Bool} {kind : Int} {x m : Nat} {t : Int} (hx : x < m) (hr : r.getD x false = true) (hk : EnB bs x = kind) (ht : t ∈ ToB bs x) : (x, t) ∈ kindE bs r kind m :=
  List.mem_flatMap.2 ⟨x, by rw [List.mem_range]; exact hx, blkE_mem hr hk ht⟩
theorem allE_mem {bs : List S39} {r : List Bool} {x : Nat} {t : Int} (hx : x < bs.length) (hr : r.getD x false = true) (hk : EnB bs x = 1 ∨ EnB bs x = 2) (ht : t ∈ ToB bs x) : (x, t) ∈ allE bs r 2 := by
  show (x, t) ∈ kindE bs r 1 bs.length ++ kindE bs r 2 bs.length
  rw [List.mem_append]
  rcases hk with h | h
  · exact .inl (kindE_mem hx hr h ht)
  · exact .inr (kindE_mem hx hr h ht)
theorem rowIs_of {bs : List S39} {r : List Bool} {g : G} (h : Inv bs.length (ToB bs) r g (allE bs r 2)) : RowIs bs.length (ToB bs) (EnB bs) r g.a g.b g.hd g.ix g.ln :=
  ⟨h.co, h.lr, h.z, fun x hx hr hk t ht h1 h2 => h.ed (x, t) (allE_mem hx hr hk ht) hx h1 h2⟩
def mZ (g : G) (m : Nat) (z : Int) : Nat := if 0 ≤ z then g.ln m - g.ix z.toNat else 0
def mQ (g : G) (m : Nat) (x : Value) : Nat := mZ g m (intOf x)
theorem mQ_yes (g : G) (m y : Nat) : mQ g m (.int .i64 (y : Int)) = g.ln m - g.ix y := by
  show mZ g m (y : Int) = _
  unfold mZ
  rw [if_pos (by omega), Int.toNat_natCast]
theorem mQ_less {n : Nat} {g : G} {m q y : Nat} {z : Int} (h : AtQ n g m (q + 1) z) (hq : q < g.ln m) (hy : g.ix y = q) : mQ g m (.int .i64 z) < g.ln m - g.ix y := by
  show mZ g m z < _
  unfold mZ
  rcases h.2 with ⟨h1, y3, _, h2, _, h4⟩ | ⟨h1, h2⟩
  · rw [h2, if_pos (by omega), Int.toNat_natCast, h4, hy]; omega
  · rw [h2, if_neg (by omega), hy]; omega
def RQ (wo : World) (n : Nat) (g : G) (m : Nat) (row ch : List Int) (v x : Value) (wq : World) : Prop :=
  ∃ (q : Nat) (z : Int), x = .int .i64 z ∧ AtQ n g m q z ∧ Kd.R (Kd.int .i64) 3 wq wo.heap.size (fun _ => True) v (row ++ ch.take q) ∧ Below wo.heap.size wo wq
/-- What linear.Row tells. -/
def RowPost (bs : List S39) (w : World) (e : Ending) (W : World) : Prop := ∃ (v : Value) (g : G), e = .returned v ∧ RowIs bs.length (ToB bs) (EnB bs) (reached bs) g.a g.b g.hd g.ix g.ln ∧ Kd.R (Kd.int .i64) 3 W w.heap.size (fun _ => True) v (outTo (reached bs) g.a g.b g.ln bs.length) ∧ Below w.heap.size w W
theorem ini_full (n : Nat) : ini n n = List.replicate n (-1) := by simp [ini]
set_option maxHeartbeats 4000000 in
set_option maxRecDepth 100000 in
theorem row_walk {w : World} (nm : ByteArray) (pa re sl : Int) (A : Option Addr) (c : Nat) (bs : List S39) (hl : Aside0 (Kd.C k39 w A bs.length bs)) (hn : bs.length ≤ 2199023255552) :
    Calls Try.prog 8 #[fv nm pa re sl A bs.length c] w (RowPost bs w) := by
  have hmk := print_make (P := Try.prog) 29 3 .i64 8 Try.underlying29 info3' (by decide) bs.length (by omega)
  have hX : Aside0 ((w.alloc (fb nm pa re sl A bs.length c)).heap[w.heap.size]? = some (fb nm pa re sl A bs.length c)) := ⟨blk_new w _⟩
  have hB : Aside0 (Below w.heap.size w (w.alloc (fb nm pa re sl A bs.length c))) := ⟨below_alloc (Below.refl _ _) _⟩
  refine (callsIn_wide (n := 7)).1 ?_
  refine callsIn_of_wp_marks Try.func8 rfl trivial ?_ rfl
  refine wpIn_wide.2 ?_
  simp only [Try.ntmps8, List.size_toArray, List.length_cons, List.length_nil, Nat.reduceAdd, Nat.reduceSub, Array.replicate_succ, Array.replicate_zero, List.push_toArray, List.append_toArray, List.nil_append, List.cons_append]
  go_upto_region 2 with (fail)
  go_cut [4] from 19 to 23 (fun s4 wx => ∃ gc ga gb, s4 = .pointer (some ⟨gc, 0, none⟩) ∧ Aside0 (Sw w wx (w.heap.size + 1) gc ga gb bs.length (fb nm pa re sl A bs.length c) (ini bs.length 0) (ini bs.length 0)))
  case first =>
    go_region
    all_goals
      go_wp2_with fail
      go_meet
      exact ⟨_, _, _, rfl, ⟨Sw.mk5 rfl rfl rfl (by first | exact (at5 w _ _ _ _ _).2.2.2.1 | exact (at5 w _ _ _ _ _).2.2.2.2.1 | exact (at5 w _ _ _ _ _).2.2.2.2.2) (by first | exact (at5 w _ _ _ _ _).2.2.2.1 | exact (at5 w _ _ _ _ _).2.2.2.2.1 | exact (at5 w _ _ _ _ _).2.2.2.2.2) (by first | exact (at5 w _ _ _ _ _).2.2.2.1 | exact (at5 w _ _ _ _ _).2.2.2.2.1 | exact (at5 w _ _ _ _ _).2.2.2.2.2) (by omega) (by omega)⟩⟩
  case rest =>
    obtain ⟨gc, ga, gb, rfl, hS⟩ := hcut
    generalize hgn : w.heap.size + 1 = gn at *
    replace hgn := Aside0.mk hgn
    have k3 : wc.cell? ⟨gn, 0, none⟩ = some (.int .i64 (bs.length : Int)) := (blk_cell hS.out.xn 0).trans rfl
    go_wp2_with fail
    go_loopw [25] (fun i wr => ∃ j : Nat, j ≤ bs.length ∧ i = .int .i64 (j : Int) ∧ Aside0 (Sw w wr gn gc ga gb bs.length (fb nm pa re sl A bs.length c) (ini bs.length j) (ini bs.length j))) (fun i _ => bs.length - (intOf i).toNat)
    case atStart => exact ⟨0, by omega, rfl, hS⟩
    case round =>
      obtain ⟨j, hj, rfl, hS2⟩ := hrel
      clear k3 hS
      by_cases hlt : j < bs.length
      · have c0 : wr.cell? ⟨gc, 0, none⟩ = some (.slice (some ⟨ga, 0, none⟩) bs.length bs.length) := (blk_cell hS2.out.xc 0).trans rfl
        have c1 : wr.cell? ⟨gc, 1, none⟩ = some (.slice (some ⟨gb, 0, none⟩) bs.length bs.length) := (blk_cell hS2.out.xc 1).trans rfl
        have hln := ini_length bs.length j hj
        have s0 := hS2.out.ra.at_ j (by omega)
        have s1 := hS2.out.rb.at_ j (by omega)
        have f0 := hS2.out.ra.fz j
        have f1 := hS2.out.rb.fz j
        have p0 := add_plain ga j
        have p1 := add_plain gb j
        have hnab := hS2.out.ne
        have hnab' := hS2.out.ne.symm
        have hca : gc ≠ ga := blk_ne hS2.out.xc hS2.out.ra (by decide)
        have hcb : gc ≠ gb := blk_ne hS2.out.xc hS2.out.rb (by decide)
        have hca' := hca.symm
        have hcb' := hcb.symm
        have hset := Aside0.mk (ini_set bs.length j hlt)
        have hfin : Aside0 (Sw w ((wr.setCell ⟨ga, j, none⟩ (.int .i64 (-1))).setCell ⟨gb, j, none⟩ (.int .i64 (-1))).drew gn gc ga gb bs.length (fb nm pa re sl A bs.length c) (ini bs.length (j + 1)) (ini bs.length (j + 1))) := ⟨by
          have h := hS2.out
          have n := h.na
          rw [← hset.out]
          exact ⟨bdn ((h.B.setCell (p := ⟨ga, j, none⟩) (Nat.le_of_lt n.2.2.1) _).setCell (p := ⟨gb, j, none⟩) (Nat.le_of_lt n.2.2.2.1) _) 1, blk_far (blk_far h.xf (by show w.heap.size ≠ ga; omega) _) (by show w.heap.size ≠ gb; omega) _, blk_far (blk_far h.xn n.1 _) n.2.1 _, blk_far (blk_far h.xc hca _) hcb _, (h.ra.put j (-1)).far hnab _, (h.rb.far hnab' _).put j (-1), h.ne, n⟩⟩
        generalize (ini bs.length j).getD j 0 = y0 at *
        go_upto_region 6 with (fail)
        go_region
        go_wp2_with fail
        go_roundw
        case rel => exact ⟨j + 1, by omega, by go_num, hfin⟩
        case measure => simp [intOf]; omega
      · obtain rfl : j = bs.length := by omega
        have y0 : wr.cell? ⟨w.heap.size, 0, none⟩ = some (.string nm) := (blk_cell hS2.out.xf 0).trans rfl
        have y1 : wr.cell? ⟨w.heap.size, 1, none⟩ = some (.int .i64 pa) := (blk_cell hS2.out.xf 1).trans rfl
        have y2 : wr.cell? ⟨w.heap.size, 2, none⟩ = some (.int .i64 re) := (blk_cell hS2.out.xf 2).trans rfl
        have y3 : wr.cell? ⟨w.heap.size, 3, none⟩ = some (.int .i64 sl) := (blk_cell hS2.out.xf 3).trans rfl
        have y4 : wr.cell? ⟨w.heap.size, 4, none⟩ = some (.slice A bs.length c) := (blk_cell hS2.out.xf 4).trans rfl
        have hlr := Aside0.mk (Kd.C_below hl.out hS2.out.B)
        go_upto_region 9 with ((with_reducible refine (reached_walk nm pa re sl A c bs hlr hn).mono ?_); rintro e w1 ⟨v, rfl, hR, hb⟩; have hR1 := Aside0.mk hR; have hS3 := Aside0.mk (hS2.out.below hb); have hR2 := Aside0.mk hR; obtain ⟨AR, cR, rfl⟩ := Kd.R_slice hR; clear hR hb)
        clear y0 y1 y2 y3 y4 hlr
        -- BEHIND
        go_wp2_with fail
        have hlenR := Aside0.mk (reached_length bs)
        have hS4 : Aside0 (Sx w (w1.alloc (.cells #[.int .i64 1, .int .i64 2] 3)) gn gc ga gb bs.length (fb nm pa re sl A bs.length c) (ini bs.length bs.length) (ini bs.length bs.length) AR (reached bs) w1.heap.size) := ⟨by
          have ha := blk_lt hS3.out.ra
          have hb := blk_lt hS3.out.rb
          have hr : Rb w1 AR (reached bs) := Rb.of_R hR1.out
          have hk := below_alloc (Below.refl w1.heap.size w1) (.cells #[.int .i64 1, .int .i64 2] 3)
          exact ⟨hS3.out.below hk, ⟨_, rfl⟩, hr.keep fun _ _ q => blk_below q hk, blk_new w1 _, by omega, by omega⟩⟩
        rw [ini_full] at hS4
        generalize w1.alloc (.cells #[.int .i64 1, .int .i64 2] 3) = W4 at *
        generalize w1.heap.size = gl at *
        clear hR1 hR2 hS3 hS2 hmk hgn
        refine wp_loop_ghost_k (fun kk a' W => ∃ u5 u7 u8 u9 u10 u11 u12 u13 u14 u15 u16 u17 u18 u19 u20 u21 u22 u23 u24 u25 u26 u27 u28 u29 u30 u31 u32 u33 u34 u35 u36 u37 u38 u41 u42 u43 u44 u45 u46 u47 u48 u49 u50 u51 u52 u53 u54 u55 u56 u57 u58 u59 u60 u61 u62 u63 u64 u65 u66 u67 u68 u69 u70 u71 u72 u73 u74 u75 u76 u77 u78 u79 u80 u81 u82 u83 u84 u85 u86 u87 u88 u89 u90 u91 u92 u93 u94 u95 u96 u97 u98 u99 u100 u101 u102 u103 u104 u105 u106 u107 u108 u109 u110 u111 u112, ∃ ds : List Deferred, (∃ (j : Nat) (g : G), j ≤ 2 ∧ kk = 2 - j ∧ u41 = .int .i64 (j : Int) ∧ Aside0 (Sx w W gn gc ga gb bs.length (fb nm pa re sl A bs.length c) g.a g.b AR (reached bs) gl) ∧ Aside0 (Inv bs.length (ToB bs) (reached bs) g (allE bs (reached bs) j)) ∧ Aside0 (Dm w.heap.size W ds)) ∧ a' = { tmps := #[fv nm pa re sl A bs.length c, .pointer (some ⟨w.heap.size, 0, none⟩), .slice none 0 0, .pointer (some ⟨gn, 0, none⟩), .pointer (some ⟨gc, 0, none⟩), u5, .slice AR (reached bs).length cR, u7, u8, u9, u10, u11, u12, u13, u14, u15, u16, u17, u18, u19, u20, u21, u22, u23, u24, u25, u26, u27, u28, u29, u30, u31, u32, u33, u34, u35, u36, u37, u38, .slice (some ⟨gl, 0, none⟩) 2 2, .int .i64 2, u41, u42, u43, u44, u45, u46, u47, u48, u49, u50, u51, u52, u53, u54, u55, u56, u57, u58, u59, u60, u61, u62, u63, u64, u65, u66, u67, u68, u69, u70, u71, u72, u73, u74, u75, u76, u77, u78, u79, u80, u81, u82, u83, u84, u85, u86, u87, u88, u89, u90, u91, u92, u93, u94, u95, u96, u97, u98, u99, u100, u101, u102, u103, u104, u105, u106, u107, u108, u109, u110, u111, u112], defers := ds }) 2 ?_ ?_
        · (repeat apply Exists.intro)
          refine ⟨?_, rfl⟩
          exact ⟨0, ⟨_, _, id, fun _ => 0, fun _ => 1⟩, by omega, rfl, rfl, hS4, ⟨Inv.start _ _ _⟩, ⟨Dm.nil _ _⟩⟩
        · clear hS4
          intro gk _ wo hinv
          obtain ⟨u5, hinv⟩ := hinv; obtain ⟨u7, hinv⟩ := hinv; obtain ⟨u8, hinv⟩ := hinv; obtain ⟨u9, hinv⟩ := hinv; obtain ⟨u10, hinv⟩ := hinv; obtain ⟨u11, hinv⟩ := hinv; obtain ⟨u12, hinv⟩ := hinv; obtain ⟨u13, hinv⟩ := hinv; obtain ⟨u14, hinv⟩ := hinv; obtain ⟨u15, hinv⟩ := hinv; obtain ⟨u16, hinv⟩ := hinv; obtain ⟨u17, hinv⟩ := hinv; obtain ⟨u18, hinv⟩ := hinv; obtain ⟨u19, hinv⟩ := hinv; obtain ⟨u20, hinv⟩ := hinv; obtain ⟨u21, hinv⟩ := hinv; obtain ⟨u22, hinv⟩ := hinv; obtain ⟨u23, hinv⟩ := hinv; obtain ⟨u24, hinv⟩ := hinv; obtain ⟨u25, hinv⟩ := hinv; obtain ⟨u26, hinv⟩ := hinv; obtain ⟨u27, hinv⟩ := hinv; obtain ⟨u28, hinv⟩ := hinv; obtain ⟨u29, hinv⟩ := hinv; obtain ⟨u30, hinv⟩ := hinv; obtain ⟨u31, hinv⟩ := hinv; obtain ⟨u32, hinv⟩ := hinv; obtain ⟨u33, hinv⟩ := hinv; obtain ⟨u34, hinv⟩ := hinv; obtain ⟨u35, hinv⟩ := hinv; obtain ⟨u36, hinv⟩ := hinv; obtain ⟨u37, hinv⟩ := hinv; obtain ⟨u38, hinv⟩ := hinv; obtain ⟨u41, hinv⟩ := hinv; obtain ⟨u42, hinv⟩ := hinv; obtain ⟨u43, hinv⟩ := hinv; obtain ⟨u44, hinv⟩ := hinv; obtain ⟨u45, hinv⟩ := hinv; obtain ⟨u46, hinv⟩ := hinv; obtain ⟨u47, hinv⟩ := hinv; obtain ⟨u48, hinv⟩ := hinv; obtain ⟨u49, hinv⟩ := hinv; obtain ⟨u50, hinv⟩ := hinv; obtain ⟨u51, hinv⟩ := hinv; obtain ⟨u52, hinv⟩ := hinv; obtain ⟨u53, hinv⟩ := hinv; obtain ⟨u54, hinv⟩ := hinv; obtain ⟨u55, hinv⟩ := hinv; obtain ⟨u56, hinv⟩ := hinv; obtain ⟨u57, hinv⟩ := hinv; obtain ⟨u58, hinv⟩ := hinv; obtain ⟨u59, hinv⟩ := hinv; obtain ⟨u60, hinv⟩ := hinv; obtain ⟨u61, hinv⟩ := hinv; obtain ⟨u62, hinv⟩ := hinv; obtain ⟨u63, hinv⟩ := hinv; obtain ⟨u64, hinv⟩ := hinv; obtain ⟨u65, hinv⟩ := hinv; obtain ⟨u66, hinv⟩ := hinv; obtain ⟨u67, hinv⟩ := hinv; obtain ⟨u68, hinv⟩ := hinv; obtain ⟨u69, hinv⟩ := hinv; obtain ⟨u70, hinv⟩ := hinv; obtain ⟨u71, hinv⟩ := hinv; obtain ⟨u72, hinv⟩ := hinv; obtain ⟨u73, hinv⟩ := hinv; obtain ⟨u74, hinv⟩ := hinv; obtain ⟨u75, hinv⟩ := hinv; obtain ⟨u76, hinv⟩ := hinv; obtain ⟨u77, hinv⟩ := hinv; obtain ⟨u78, hinv⟩ := hinv; obtain ⟨u79, hinv⟩ := hinv; obtain ⟨u80, hinv⟩ := hinv; obtain ⟨u81, hinv⟩ := hinv; obtain ⟨u82, hinv⟩ := hinv; obtain ⟨u83, hinv⟩ := hinv; obtain ⟨u84, hinv⟩ := hinv; obtain ⟨u85, hinv⟩ := hinv; obtain ⟨u86, hinv⟩ := hinv; obtain ⟨u87, hinv⟩ := hinv; obtain ⟨u88, hinv⟩ := hinv; obtain ⟨u89, hinv⟩ := hinv; obtain ⟨u90, hinv⟩ := hinv; obtain ⟨u91, hinv⟩ := hinv; obtain ⟨u92, hinv⟩ := hinv; obtain ⟨u93, hinv⟩ := hinv; obtain ⟨u94, hinv⟩ := hinv; obtain ⟨u95, hinv⟩ := hinv; obtain ⟨u96, hinv⟩ := hinv; obtain ⟨u97, hinv⟩ := hinv; obtain ⟨u98, hinv⟩ := hinv; obtain ⟨u99, hinv⟩ := hinv; obtain ⟨u100, hinv⟩ := hinv; obtain ⟨u101, hinv⟩ := hinv; obtain ⟨u102, hinv⟩ := hinv; obtain ⟨u103, hinv⟩ := hinv; obtain ⟨u104, hinv⟩ := hinv; obtain ⟨u105, hinv⟩ := hinv; obtain ⟨u106, hinv⟩ := hinv; obtain ⟨u107, hinv⟩ := hinv; obtain ⟨u108, hinv⟩ := hinv; obtain ⟨u109, hinv⟩ := hinv; obtain ⟨u110, hinv⟩ := hinv; obtain ⟨u111, hinv⟩ := hinv; obtain ⟨u112, hinv⟩ := hinv; obtain ⟨ds, hrel, ha⟩ := hinv
          subst ha
          try dsimp only
          intro _ _ _ _
          obtain ⟨j, g, hj, rfl, rfl, hS, hI, hD⟩ := hrel
          by_cases hlt : j < 2
          · have x0 : wo.cell? ⟨gl, j, none⟩ = some (.int .i64 ((j : Int) + 1)) := by
              rw [blk_cell hS.out.x]
              match j, hlt with
              | 0, _ => rfl
              | 1, _ => rfl
            have x1 := add_plain gl j
            have y4 : wo.cell? ⟨w.heap.size, 4, none⟩ = some (.slice A bs.length c) := (blk_cell hS.out.s.xf 4).trans rfl
            have q0 : (j : Int) < 2 := by omega
            go_wp2_with fail
            refine wp_loop_ghost_k (fun kk a' W => ∃ u5 u7 u9 u10 u11 u12 u13 u14 u15 u16 u17 u18 u19 u20 u21 u22 u23 u24 u25 u26 u27 u28 u29 u30 u31 u32 u33 u34 u35 u36 u37 u38 u42 u43 u44 u45 u48 u49 u50 u51 u52 u53 u54 u55 u56 u57 u58 u59 u60 u61 u62 u63 u64 u65 u66 u67 u68 u69 u70 u71 u72 u73 u74 u75 u76 u77 u78 u79 u80 u81 u82 u83 u84 u85 u86 u87 u88 u89 u90 u91 u92 u93 u94 u95 u96 u97 u98 u99 u100 u101 u102 u103 u104 u105 u106 u107 u108 u109 u110 u111 u112, ∃ ds : List Deferred, (∃ (i : Nat) (g : G), i ≤ bs.length ∧ kk = bs.length - i ∧ u48 = .int .i64 (i : Int) ∧ Aside0 (Sx w W gn gc ga gb bs.length (fb nm pa re sl A bs.length c) g.a g.b AR (reached bs) gl) ∧ Aside0 (Inv bs.length (ToB bs) (reached bs) g (allE bs (reached bs) j ++ kindE bs (reached bs) ((j : Int) + 1) i)) ∧ Aside0 (Dm w.heap.size W ds)) ∧ a' = { tmps := #[fv nm pa re sl A bs.length c, .pointer (some ⟨w.heap.size, 0, none⟩), .slice none 0 0, .pointer (some ⟨gn, 0, none⟩), .pointer (some ⟨gc, 0, none⟩), u5, .slice AR (reached bs).length cR, u7, .int .i64 ((j : Int) + 1), u9, u10, u11, u12, u13, u14, u15, u16, u17, u18, u19, u20, u21, u22, u23, u24, u25, u26, u27, u28, u29, u30, u31, u32, u33, u34, u35, u36, u37, u38, .slice (some ⟨gl, 0, none⟩) 2 2, .int .i64 2, .int .i64 (j : Int), u42, u43, u44, u45, .slice A bs.length c, .int .i64 (bs.length : Int), u48, u49, u50, u51, u52, u53, u54, u55, u56, u57, u58, u59, u60, u61, u62, u63, u64, u65, u66, u67, u68, u69, u70, u71, u72, u73, u74, u75, u76, u77, u78, u79, u80, u81, u82, u83, u84, u85, u86, u87, u88, u89, u90, u91, u92, u93, u94, u95, u96, u97, u98, u99, u100, u101, u102, u103, u104, u105, u106, u107, u108, u109, u110, u111, u112], defers := ds }) bs.length ?_ ?_
            · (repeat apply Exists.intro)
              refine ⟨?_, rfl⟩
              exact ⟨0, g, by omega, rfl, rfl, hS, ⟨by rw [kindE_zero, List.append_nil]; exact hI.out⟩, hD⟩
            · clear hS hI hD x0 y4
              intro gk _ wr hinv
              obtain ⟨u5, hinv⟩ := hinv; obtain ⟨u7, hinv⟩ := hinv; obtain ⟨u9, hinv⟩ := hinv; obtain ⟨u10, hinv⟩ := hinv; obtain ⟨u11, hinv⟩ := hinv; obtain ⟨u12, hinv⟩ := hinv; obtain ⟨u13, hinv⟩ := hinv; obtain ⟨u14, hinv⟩ := hinv; obtain ⟨u15, hinv⟩ := hinv; obtain ⟨u16, hinv⟩ := hinv; obtain ⟨u17, hinv⟩ := hinv; obtain ⟨u18, hinv⟩ := hinv; obtain ⟨u19, hinv⟩ := hinv; obtain ⟨u20, hinv⟩ := hinv; obtain ⟨u21, hinv⟩ := hinv; obtain ⟨u22, hinv⟩ := hinv; obtain ⟨u23, hinv⟩ := hinv; obtain ⟨u24, hinv⟩ := hinv; obtain ⟨u25, hinv⟩ := hinv; obtain ⟨u26, hinv⟩ := hinv; obtain ⟨u27, hinv⟩ := hinv; obtain ⟨u28, hinv⟩ := hinv; obtain ⟨u29, hinv⟩ := hinv; obtain ⟨u30, hinv⟩ := hinv; obtain ⟨u31, hinv⟩ := hinv; obtain ⟨u32, hinv⟩ := hinv; obtain ⟨u33, hinv⟩ := hinv; obtain ⟨u34, hinv⟩ := hinv; obtain ⟨u35, hinv⟩ := hinv; obtain ⟨u36, hinv⟩ := hinv; obtain ⟨u37, hinv⟩ := hinv; obtain ⟨u38, hinv⟩ := hinv; obtain ⟨u42, hinv⟩ := hinv; obtain ⟨u43, hinv⟩ := hinv; obtain ⟨u44, hinv⟩ := hinv; obtain ⟨u45, hinv⟩ := hinv; obtain ⟨u48, hinv⟩ := hinv; obtain ⟨u49, hinv⟩ := hinv; obtain ⟨u50, hinv⟩ := hinv; obtain ⟨u51, hinv⟩ := hinv; obtain ⟨u52, hinv⟩ := hinv; obtain ⟨u53, hinv⟩ := hinv; obtain ⟨u54, hinv⟩ := hinv; obtain ⟨u55, hinv⟩ := hinv; obtain ⟨u56, hinv⟩ := hinv; obtain ⟨u57, hinv⟩ := hinv; obtain ⟨u58, hinv⟩ := hinv; obtain ⟨u59, hinv⟩ := hinv; obtain ⟨u60, hinv⟩ := hinv; obtain ⟨u61, hinv⟩ := hinv; obtain ⟨u62, hinv⟩ := hinv; obtain ⟨u63, hinv⟩ := hinv; obtain ⟨u64, hinv⟩ := hinv; obtain ⟨u65, hinv⟩ := hinv; obtain ⟨u66, hinv⟩ := hinv; obtain ⟨u67, hinv⟩ := hinv; obtain ⟨u68, hinv⟩ := hinv; obtain ⟨u69, hinv⟩ := hinv; obtain ⟨u70, hinv⟩ := hinv; obtain ⟨u71, hinv⟩ := hinv; obtain ⟨u72, hinv⟩ := hinv; obtain ⟨u73, hinv⟩ := hinv; obtain ⟨u74, hinv⟩ := hinv; obtain ⟨u75, hinv⟩ := hinv; obtain ⟨u76, hinv⟩ := hinv; obtain ⟨u77, hinv⟩ := hinv; obtain ⟨u78, hinv⟩ := hinv; obtain ⟨u79, hinv⟩ := hinv; obtain ⟨u80, hinv⟩ := hinv; obtain ⟨u81, hinv⟩ := hinv; obtain ⟨u82, hinv⟩ := hinv; obtain ⟨u83, hinv⟩ := hinv; obtain ⟨u84, hinv⟩ := hinv; obtain ⟨u85, hinv⟩ := hinv; obtain ⟨u86, hinv⟩ := hinv; obtain ⟨u87, hinv⟩ := hinv; obtain ⟨u88, hinv⟩ := hinv; obtain ⟨u89, hinv⟩ := hinv; obtain ⟨u90, hinv⟩ := hinv; obtain ⟨u91, hinv⟩ := hinv; obtain ⟨u92, hinv⟩ := hinv; obtain ⟨u93, hinv⟩ := hinv; obtain ⟨u94, hinv⟩ := hinv; obtain ⟨u95, hinv⟩ := hinv; obtain ⟨u96, hinv⟩ := hinv; obtain ⟨u97, hinv⟩ := hinv; obtain ⟨u98, hinv⟩ := hinv; obtain ⟨u99, hinv⟩ := hinv; obtain ⟨u100, hinv⟩ := hinv; obtain ⟨u101, hinv⟩ := hinv; obtain ⟨u102, hinv⟩ := hinv; obtain ⟨u103, hinv⟩ := hinv; obtain ⟨u104, hinv⟩ := hinv; obtain ⟨u105, hinv⟩ := hinv; obtain ⟨u106, hinv⟩ := hinv; obtain ⟨u107, hinv⟩ := hinv; obtain ⟨u108, hinv⟩ := hinv; obtain ⟨u109, hinv⟩ := hinv; obtain ⟨u110, hinv⟩ := hinv; obtain ⟨u111, hinv⟩ := hinv; obtain ⟨u112, hinv⟩ := hinv; obtain ⟨ds, hrel, ha⟩ := hinv
              subst ha
              try dsimp only
              intro _ _ _ _
              obtain ⟨i, g, hi, rfl, rfl, hS, hI, hD⟩ := hrel
              by_cases hlt2 : i < bs.length
              · obtain ⟨gr, eA, m0⟩ := hS.out.r.cell i (by rw [hlenR.out]; exact hlt2)
                subst eA
                have m1 := add_plain gr i
                obtain ⟨ad, A0, c0, A3, c3, e, d0, d1, d2, d3, l0, g0, l3, g3⟩ := at_T39 hl.out (i : Int) (by omega) (by omega)
                cases e
                simp only [Int.toNat_natCast] at d0 d1 d2 d3
                replace d0 := (hS.out.s.B.cell (World.block_lt_of_cell? w _ d0)).trans d0
                replace d1 := (hS.out.s.B.cell (World.block_lt_of_cell? w _ d1)).trans d1
                replace d2 := (hS.out.s.B.cell (World.block_lt_of_cell? w _ d2)).trans d2
                replace d3 := (hS.out.s.B.cell (World.block_lt_of_cell? w _ d3)).trans d3
                have eb : rd_T39 bs (i : Int) = bs.getD i z39 := by simp [rd_T39]
                rw [eb] at d0 d1 d2 d3 g3
                have hTo : Aside0 (ToB bs i = (bs.getD i z39).f3) := ⟨rfl⟩
                have hBl : Aside0 (blkE bs (reached bs) ((j : Int) + 1) i = if (reached bs).getD i false = true ∧ (bs.getD i z39).f1 = (j : Int) + 1 then (upto (bk (ToB bs i)) (ToB bs i).length).map (fun p => (i, p.2)) else []) := ⟨rfl⟩
                clear eb l0 g0 l3
                replace g3 := Aside0.mk g3
                have hmx3 := Kd.C_max g3.out
                have hB5 := Aside0.mk (below_alloc (below_alloc (Below.refl wr.heap.size wr) (.cells #[.int .i64 (i : Int)] 3)) (bb (bs.getD i z39) A0 A3 c0 c3))
                have xi5 : Aside0 (((wr.alloc (.cells #[.int .i64 (i : Int)] 3)).alloc (bb (bs.getD i z39) A0 A3 c0 c3)).heap[wr.heap.size]? = some (.cells #[.int .i64 (i : Int)] 3)) := ⟨blk_alloc (blk_new wr _) _⟩
                have xb5 : Aside0 (((wr.alloc (.cells #[.int .i64 (i : Int)] 3)).alloc (bb (bs.getD i z39) A0 A3 c0 c3)).heap[wr.heap.size + 1]? = some (bb (bs.getD i z39) A0 A3 c0 c3)) := ⟨by
                  have h := blk_new (wr.alloc (.cells #[.int .i64 (i : Int)] 3)) (bb (bs.getD i z39) A0 A3 c0 c3)
                  rwa [show (wr.alloc (.cells #[.int .i64 (i : Int)] 3)).heap.size = wr.heap.size + 1 by simp] at h⟩
                generalize bs.getD i z39 = b at *
                have q1 : (i : Int) < (bs.length : Int) := by omega
                go_upto_region 15 with (fail)
                have hS5 := Aside0.mk (hS.out.below hB5.out)
                have hD5 := Aside0.mk (hD.out.below hB5.out)
                have hz5 : wr.heap.size + 1 < ((wr.alloc (.cells #[.int .i64 (i : Int)] 3)).alloc (bb b A0 A3 c0 c3)).heap.size := by simp
                have m5 : ((wr.alloc (.cells #[.int .i64 (i : Int)] 3)).alloc (bb b A0 A3 c0 c3)).cell? ⟨gr, i, none⟩ = some (.bool ((reached bs).getD i false)) := (hB5.out.cell (World.block_lt_of_cell? wr _ m0)).trans m0
                have hgi : ga < wr.heap.size ∧ gb < wr.heap.size := ⟨blk_lt hS.out.s.ra, blk_lt hS.out.s.rb⟩
                have hks := Aside0.mk (kindE_succ bs (reached bs) ((j : Int) + 1) i)
                clear m0 d0 d1 d2 d3 hS hD hB5
                generalize (wr.alloc (Obj.cells #[Value.int IntKind.i64 (i : Int)] 3)).alloc (Obj.cells #[Value.slice A0 b.f0.length c0, Value.int IntKind.i64 b.f1, Value.int IntKind.i64 b.f2, Value.slice A3 b.f3.length c3] 39) = W5 at *
                have zi : W5.cell? ⟨wr.heap.size, 0, none⟩ = some (.int .i64 (i : Int)) := (blk_cell xi5.out 0).trans rfl
                have zb1 : W5.cell? ⟨wr.heap.size + 1, 1, none⟩ = some (.int .i64 b.f1) := (blk_cell xb5.out 1).trans rfl
                have zb3 : W5.cell? ⟨wr.heap.size + 1, 3, none⟩ = some (.slice A3 b.f3.length c3) := (blk_cell xb5.out 3).trans rfl
                have q2 : (i : Int) < ((reached bs).length : Int) := by have := hlenR.out; omega
                have q3 : i < (reached bs).length := by have := hlenR.out; omega
                generalize hgI : wr.heap.size = gi at *
                clear hgI
                by_cases hr : (reached bs).getD i false = true
                rotate_left
                · have hE : Aside0 (blkE bs (reached bs) ((j : Int) + 1) i = []) := ⟨by rw [hBl.out, if_neg (fun h => hr h.1)]⟩
                  rw [show (reached bs).getD i false = false by simpa using hr] at m5
                  clear hr
                  go_wp2_with fail
                  refine Handed.intro (bs.length - (i + 1)) ?_ ?_
                  rotate_left
                  · go_step
                    (repeat apply Exists.intro)
                    refine ⟨?_, rfl⟩
                    exact ⟨i + 1, g, by omega, rfl, by go_num, hS5, ⟨by rw [hks.out, hE.out, List.append_nil]; exact hI.out⟩, hD5⟩
                  · omega
                · rw [hr] at m5
                  by_cases hk : b.f1 = (j : Int) + 1
                  rotate_left
                  · have hE : Aside0 (blkE bs (reached bs) ((j : Int) + 1) i = []) := ⟨by rw [hBl.out, if_neg (fun h => hk h.2)]⟩
                    have hk2 : (b.f1 != (j : Int) + 1) = true := by simpa using hk
                    clear hr hk
                    go_wp2_with fail
                    refine Handed.intro (bs.length - (i + 1)) ?_ ?_
                    rotate_left
                    · go_step
                      (repeat apply Exists.intro)
                      refine ⟨?_, rfl⟩
                      exact ⟨i + 1, g, by omega, rfl, by go_num, hS5, ⟨by rw [hks.out, hE.out, List.append_nil]; exact hI.out⟩, hD5⟩
                    · omega
                  · have hE : Aside0 (blkE bs (reached bs) ((j : Int) + 1) i = (upto (bk b.f3) b.f3.length).map (fun p => (i, p.2))) := ⟨by rw [hBl.out, if_pos ⟨hr, hk⟩, hTo.out]⟩
                    have hk2 : (b.f1 != (j : Int) + 1) = false := by simp [hk]
                    replace hr := Aside0.mk hr
                    clear hk
                    go_wp2_with ((with_reducible refine (back A3 b.f3.length c3).mono ?_); rintro e w9 ⟨rfl, rfl⟩)
                    have hB6 := below_alloc (Below.refl W5.heap.size W5) (box A3 b.f3.length c3)
                    have hS6 := Aside0.mk (hS5.out.below hB6)
                    have hD6 := hD5.out.below hB6
                    have hbx := Aside0.mk (blk_new W5 (box A3 b.f3.length c3))
                    have xi6 := Aside0.mk (blk_below xi5.out hB6)
                    clear hB6 hS5 hD5 xi5 xb5 zi zb1 zb3 m5
                    generalize W5.alloc (box A3 b.f3.length c3) = W6 at *
                    generalize W5.heap.size = gB at *
                    obtain ⟨Dl, rfl, hnd, hDl⟩ := hD6
                    have hsz : w.heap.size ≤ W6.heap.size := hS6.out.s.B.size
                    have hown : OwnFrom W6.heap.size (Iv w gn gc ga gb gl gi bs.length (ToB bs) (reached bs) (fb nm pa re sl (some ad) bs.length c) (some ⟨gr, 0, none⟩) Dl (allE bs (reached bs) j ++ kindE bs (reached bs) ((j : Int) + 1) i) i b.f3) := Iv.own (fun D hd => blk_lt (hDl D hd).2) hsz
                    refine (wpIn_wide (n := 7)).1 ?_
                    refine wpIn_rangeFunc_ownG (F := Fence.wide) (n := 7) rfl (by decide) (gf := 43) (lb := #[.pointer (some ⟨gB, 0, none⟩)]) rfl trivial (enters_of Try.func43 (by kernel_rfl) rfl) (back_stops Fence.wide (7 - 1) trivial rfl (by decide) gB w A3 c3 b.f3 g3 W6 hS6.out.s.B hbx.out) (fun h k => kp_t h k) (kp_b hsz) (Below.refl _ _) (fun _ => rfl)
                      (Iv w gn gc ga gb gl gi bs.length (ToB bs) (reached bs) (fb nm pa re sl (some ad) bs.length c) (some ⟨gr, 0, none⟩) Dl (allE bs (reached bs) j ++ kindE bs (reached bs) ((j : Int) + 1) i) i b.f3) (fun _ _ _ => False) hown (fun _ _ _ _ _ h _ _ => h)
                      ⟨⟨g, hS6.out, by rw [List.map_nil, List.append_nil]; exact hI.out⟩, fun D hd => (hDl D hd).2, xi6.out⟩
                      (fun x => { tmps := #[fv nm pa re sl (some ad) bs.length c, .pointer (some ⟨w.heap.size, 0, none⟩), .slice none 0 0, .pointer (some ⟨gn, 0, none⟩), .pointer (some ⟨gc, 0, none⟩), u5, .slice (some ⟨gr, 0, none⟩) (reached bs).length cR, u7, .int .i64 ((j : Int) + 1), .pointer (some ⟨gi, 0, none⟩), .pointer (some ⟨gi + 1, 0, none⟩), u11, .int .i64 x.1.2, u13, u14, u15, u16, u17, u18, u19, u20, u21, u22, u23, u24, u25, u26, u27, u28, u29, u30, u31, u32, u33, u34, u35, u36, u37, u38, .slice (some ⟨gl, 0, none⟩) 2 2, .int .i64 2, .int .i64 (j : Int), u42, u43, u44, u45, .slice (some ad) bs.length c, .int .i64 (bs.length : Int), .int .i64 (i : Int), .bool true, .int .i64 (i : Int), .pointer (some (ad.add (i * 4))), .agg #[.slice A0 b.f0.length c0, .int .i64 b.f1, .int .i64 b.f2, .slice A3 b.f3.length c3], .slice (some ⟨gr, 0, none⟩) (reached bs).length cR, .int .i64 (i : Int), .pointer (some ⟨gr, i, none⟩), .bool true, .bool false, .bool false, .pointer (some ⟨gi + 1, 1, none⟩), .int .i64 b.f1, .int .i64 ((j : Int) + 1), .bool false, .bool false, .pointer (some ⟨gi + 1, 3, none⟩), .slice A3 b.f3.length c3, .func (.func 43) #[] #[.pointer (some ⟨gB, 0, none⟩)], .int .i64 x.1.1, .int .i64 x.1.2, u69, u70, u71, u72, u73, u74, u75, u76, u77, u78, u79, u80, u81, u82, u83, u84, u85, u86, u87, u88, u89, u90, u91, u92, u93, u94, u95, u96, u97, u98, u99, u100, u101, u102, u103, u104, u105, u106, u107, u108, u109, u110, u111, u112], defers := [] }) ?assign ?body ?done ?stop
                    case assign =>
                      intro l x W K hK
                      gi_wp2
                      exact hK
                    case body =>
                      rintro l pre ⟨⟨x1, x2⟩, hx⟩ W ⟨⟨g', hS7, hI7⟩, hm7, hi7⟩ hlen
                      dsimp only
                      have kn : W.cell? ⟨gn, 0, none⟩ = some (.int .i64 (bs.length : Int)) := (blk_cell hS7.s.xn 0).trans rfl
                      have kc0 : W.cell? ⟨gc, 0, none⟩ = some (.slice (some ⟨ga, 0, none⟩) bs.length bs.length) := (blk_cell hS7.s.xc 0).trans rfl
                      have kc1 : W.cell? ⟨gc, 1, none⟩ = some (.slice (some ⟨gb, 0, none⟩) bs.length bs.length) := (blk_cell hS7.s.xc 1).trans rfl
                      have ki : W.cell? ⟨gi, 0, none⟩ = some (.int .i64 (i : Int)) := (blk_cell hi7 0).trans rfl
                      replace hS7 := Aside0.mk hS7
                      replace hI7 := Aside0.mk hI7
                      replace hm7 := Aside0.mk hm7
                      replace hi7 := Aside0.mk hi7
                      clear hlen
                      by_cases ht0 : 0 ≤ x2
                      · obtain ⟨t, rfl⟩ := Int.eq_ofNat_of_zero_le ht0
                        by_cases ht1 : t < bs.length
                        · have ht2 : (t : Int) < (bs.length : Int) := by omega
                          have hlk := Aside0.mk (link (w := W) (ga := ga) (gb := gb) (n := bs.length) (g := g') ⟨hS7.out.s.ra⟩ ⟨hS7.out.s.rb⟩ hS7.out.s.ne ⟨hI7.out.co⟩ (by omega) i t hlt2 ht1)
                          gi_wp2_with (refine ⟨trivial, ?_⟩; gi_at_call 29; (with_reducible refine (CallsIn.inRound l (callsIn_wide.2 hlk.out)).mono ?_); rintro e w8 ⟨rfl, ra8, rb8, k8⟩)
                          exact Iv.link hS7.out hI7.out hm7.out hi7.out hlt2 hr.out hTo.out ⟨(x1, (t : Int)), hx⟩ ⟨by omega, by omega⟩ t rfl ht1 k8 ra8 rb8 _
                        · have ht2 : (bs.length : Int) ≤ (t : Int) := by omega
                          gi_wp2
                          exact Iv.skip hS7.out hI7.out hm7.out hi7.out hlt2 hr.out hTo.out ⟨(x1, (t : Int)), hx⟩ (by dsimp only; omega) _
                      · have ht2 : x2 < 0 := by omega
                        clear ht0
                        gi_wp2
                        exact Iv.skip hS7.out hI7.out hm7.out hi7.out hlt2 hr.out hTo.out ⟨(x1, x2), hx⟩ (by dsimp only; omega) _
                    case done =>
                      rintro D ys W hDW hys ⟨⟨g', hS7, hI7⟩, hm7, hi7⟩ hK
                      have hm8 : Dm w.heap.size W (mark D :: Dl.map mark) := ⟨D :: Dl, rfl, List.nodup_cons.2 ⟨fun m => by have := blk_lt (hDl D m).2; omega, hnd⟩, fun X hX => by
                        rcases List.mem_cons.1 hX with rfl | hX
                        · exact ⟨by omega, hK⟩
                        · exact ⟨(hDl X hX).1, hm7 X hX⟩⟩
                      have hI8 : Aside0 (Inv bs.length (ToB bs) (reached bs) g' (allE bs (reached bs) j ++ kindE bs (reached bs) ((j : Int) + 1) (i + 1))) := ⟨by
                        rw [hks.out, hE.out, ← hys, List.map_map, ← List.append_assoc]; exact hI7⟩
                      replace hS7 := Aside0.mk hS7
                      replace hm8 := Aside0.mk hm8
                      clear hI7 hm7 hi7 hys hK hDl hDW hE
                      go_wp2_with fail
                      refine Handed.intro (bs.length - (i + 1)) ?_ ?_
                      rotate_left
                      · go_step
                        (repeat apply Exists.intro)
                        refine ⟨?_, rfl⟩
                        exact ⟨i + 1, g', by omega, rfl, by go_num, hS7, hI8, hm8⟩
                      · omega
                    case stop =>
                      rintro D c pre W _ _ h _
                      exact h.elim
              · obtain rfl : i = bs.length := by omega
                go_wp2_with fail
                refine Handed.intro (2 - (j + 1)) ?_ ?_
                rotate_left
                · go_step
                  (repeat apply Exists.intro)
                  refine ⟨?_, rfl⟩
                  exact ⟨j + 1, g, by omega, rfl, by go_num, hS, ⟨by rw [allE_succ _ _ j hlt]; exact hI.out⟩, hD⟩
                · omega
          · obtain rfl : j = 2 := by omega
            rw [show ((2 : Nat) : Int) = 2 from rfl]
            clear hlt hj
            obtain ⟨Dl, rfl, hnd, hDl⟩ := hD.out
            have hRI := Aside0.mk (rowIs_of hI.out)
            have hco := Aside0.mk hI.out.co
            replace hnd := Aside0.mk hnd
            replace hDl := Aside0.mk hDl
            clear hI hD
            have kn : wo.cell? ⟨gn, 0, none⟩ = some (.int .i64 (bs.length : Int)) := (blk_cell hS.out.s.xn 0).trans rfl
            have hszo := Aside0.mk hS.out.s.B.size
            go_wp2_with fail
            clear kn
            go_loopw [13, 83] (fun v i wr => ∃ m : Nat, m ≤ bs.length ∧ i = .int .i64 (m : Int) ∧ Aside0 (Kd.R (Kd.int .i64) 3 wr wo.heap.size (fun _ => True) v (outTo (reached bs) g.a g.b g.ln m)) ∧ Aside0 (Below wo.heap.size wo wr)) (fun _ i _ => bs.length - (intOf i).toNat)
            case atStart => exact ⟨0, by omega, rfl, ⟨Kd.R_nil _ _ _ _ _⟩, ⟨Below.refl _ _⟩⟩
            case round =>
              obtain ⟨m, hm, rfl, hR, hB7⟩ := hrel
              obtain ⟨A7, c7, rfl⟩ := Kd.R_slice hR.out
              have hSr := Aside0.mk (hS.out.below hB7.out)
              by_cases hlt : m < bs.length
              · obtain ⟨gr, eA, m0⟩ := hSr.out.r.cell m (by rw [hlenR.out]; exact hlt)
                subst eA
                have m1 := add_plain gr m
                have kc0 : wr.cell? ⟨gc, 0, none⟩ = some (.slice (some ⟨ga, 0, none⟩) bs.length bs.length) := (blk_cell hSr.out.s.xc 0).trans rfl
                have kc1 : wr.cell? ⟨gc, 1, none⟩ = some (.slice (some ⟨gb, 0, none⟩) bs.length bs.length) := (blk_cell hSr.out.s.xc 1).trans rfl
                have kb := hSr.out.s.rb.at_ m (by rw [hco.out.l2]; exact hlt)
                have kb1 := add_plain gb m
                have q2 : (m : Int) < ((reached bs).length : Int) := by have := hlenR.out; omega
                have q3 : m < (reached bs).length := by have := hlenR.out; omega
                have q4 : (m : Int) < (bs.length : Int) := by omega
                by_cases hr : (reached bs).getD m false = true
                rotate_left
                · have hno := Aside0.mk (out_no (r := reached bs) (a := g.a) (b := g.b) (ln := g.ln) (i := m) (fun h => hr h.1))
                  rw [show (reached bs).getD m false = false by simpa using hr] at m0
                  clear hr
                  go_wp2_with fail
                  go_roundw
                  case rel => exact ⟨m + 1, by omega, by go_num, ⟨by rw [hno.out]; exact hR.out⟩, hB7⟩
                  case measure => simp [intOf]; omega
                · rw [hr] at m0
                  by_cases hk : g.b.getD m 0 < 0
                  rotate_left
                  · have hno := Aside0.mk (out_no (r := reached bs) (a := g.a) (b := g.b) (ln := g.ln) (i := m) (fun h => hk h.2))
                    have hk2 : 0 ≤ g.b.getD m 0 := by omega
                    clear hr hk
                    generalize g.b.getD m 0 = y at *
                    go_wp2_with fail
                    go_roundw
                    case rel => exact ⟨m + 1, by omega, by go_num, ⟨by rw [hno.out]; exact hR.out⟩, hB7⟩
                    case measure => simp [intOf]; omega
                  · have hyes := Aside0.mk (out_yes (r := reached bs) (a := g.a) (b := g.b) (ln := g.ln) (i := m) ⟨hr, hk⟩)
                    have hroot : Aside0 ((reached bs).getD m false = true ∧ g.b.getD m 0 < 0) := ⟨⟨hr, hk⟩⟩
                    have hst := Aside0.mk (AtQ.start hco.out m hlt hk)
                    have hfull := Aside0.mk (run_full hco.out hlt hk)
                    clear hr
                    obtain ⟨y, hy0⟩ : ∃ y, y = g.b.getD m 0 := ⟨_, rfl⟩
                    rw [← hy0] at kb hk
                    clear hy0
                    go_wp2_with fail
                    clear m0 kc0 kc1 kb
                    go_loopw [13, 15] (fun v x wq => RQ wo bs.length g m (outTo (reached bs) g.a g.b g.ln m) (chainL g.a (g.ln m) m) v x wq) (fun _ x _ => mQ g m x)
                    case atStart => exact ⟨0, _, rfl, hst.out, by rw [List.take_zero, List.append_nil]; exact hR.out, hB7.out⟩
                    case round =>
                      obtain ⟨q, z, rfl, hq, hR8, hB8⟩ := hrel
                      replace hq := Aside0.mk hq
                      replace hR8 := Aside0.mk hR8
                      replace hB8 := Aside0.mk hB8
                      clear hst hR hB7 hSr
                      have hbd := Aside0.mk (run_bound hco.out (reached bs) hlt hroot.out q)
                      rcases hq.out.2 with ⟨hql, y2, hy, rfl, hy1, hy2⟩ | ⟨hql, rfl⟩
                      · obtain ⟨hnq, htk⟩ := AtQ.next hco.out hlt hroot.out.2 hql hy hy1 hy2
                        replace htk := Aside0.mk htk
                        have hrow := Aside0.mk (show outTo (reached bs) g.a g.b g.ln m ++ (chainL g.a (g.ln m) m).take (q + 1) = (outTo (reached bs) g.a g.b g.ln m ++ (chainL g.a (g.ln m) m).take q) ++ [(y2 : Int)] by rw [htk.out, List.append_assoc])
                        have hbd2 : (outTo (reached bs) g.a g.b g.ln m ++ (chainL g.a (g.ln m) m).take q).length ≤ 2199023255552 := by have := hbd.out; omega
                        have hmea := mQ_less hnq hql hy2
                        obtain ⟨z2, hz2⟩ : ∃ z2, z2 = g.a.getD y2 0 := ⟨_, rfl⟩
                        rw [← hz2] at hnq hmea
                        replace hz2 := Aside0.mk hz2
                        replace hmea := Aside0.mk hmea
                        replace hnq := Aside0.mk hnq
                        obtain ⟨row, hrow0⟩ : ∃ row, row = outTo (reached bs) g.a g.b g.ln m ++ (chainL g.a (g.ln m) m).take q := ⟨_, rfl⟩
                        rw [← hrow0] at hR8 hrow hbd2
                        clear hrow0
                        obtain ⟨A8, c8, rfl⟩ := Kd.R_slice hR8.out
                        have q5 : (y2 : Int) < (bs.length : Int) := by omega
                        have q6 : (0 : Int) ≤ (y2 : Int) := by omega
                        have kap := add_plain ga y2
                        clear hy1 hy2 hql hq hbd htk
                        go_wp2_with (at_builtin; go_loud ((refine Kd.R_append (Kd.int .i64) (w0 := wo) wo.heap.size rfl (.tmp 107) (.tmp 109) 29 3 (.int .i64 0) 8 rfl Try.underlying29 info3' rfl (by decide) (by omega) (.slice A8 row.length c8) row (y2 : Int) [.int .i64 (y2 : Int)] (fun _ => True) (fun _ => False) rfl rfl ?aP (fun _ hk => hk.elim) ?aF ?aO ?aB ?aS ?aL ?_; (case aP => exact rfl); (case aB => exact hB8.out); (case aF => exact fun _ _ => trivial); (case aO => exact hR8.out); (case aS => exact hB8.out.size); (case aL => omega); intro v1 w1 ho hb hg hat; have hR9 := Aside0.mk ho; have hB9 := Aside0.mk hb; have hS9 := Aside0.mk (hS.out.below hb); have c90 : w1.cell? ⟨gc, 0, none⟩ = some (.slice (some ⟨ga, 0, none⟩) bs.length bs.length) := (blk_cell hS9.out.s.xc 0).trans rfl; have c91 : w1.cell? ⟨ga, y2, none⟩ = some (.int .i64 z2) := (by rw [hz2.out]; exact hS9.out.s.ra.at_ y2 (by rw [hco.out.l1]; exact hy)); clear ho hb hg hat)))
                        go_roundw
                        case rel => exact ⟨q + 1, z2, rfl, hnq.out, by rw [hrow.out]; exact hR9.out, hB9.out⟩
                        case measure => show mQ g m _ < mQ g m _; rw [mQ_yes]; exact hmea.out
                      · subst hql
                        rw [hfull.out] at hR8
                        go_wp2_with fail
                        go_roundw
                        case rel => exact ⟨m + 1, by omega, by go_num, ⟨by rw [hyes.out]; exact hR8.out⟩, hB8⟩
                        case measure => simp [intOf]; omega
              · obtain rfl : m = bs.length := by omega
                go_wp2_with fail
                have hDl2 : ∀ D ∈ Dl, wr.heap[D]? = some (Obj.deferred (some [])) := fun D hd => blk_below (hDl.out D hd).2 hB7.out
                refine leaves_marks Dl _ hnd.out hDl2 ?_
                rintro W2 hM
                refine ⟨_, results_tmp rfl _ _ _, _, g, rfl, hRI.out, ?_, ?_⟩
                · exact Kd.R_lower (R_cel hR.out (fun k cs q hc => hM.block k (fun hd => by rw [hDl2 k hd] at hc; cases hc))) hszo.out
                · exact (below_step hS.out.s.B hB7.out).trans (hM.below (fun D hd => (hDl.out D hd).1))
end Go.Proofs.Ytidhkicpandmbaa.RwB
