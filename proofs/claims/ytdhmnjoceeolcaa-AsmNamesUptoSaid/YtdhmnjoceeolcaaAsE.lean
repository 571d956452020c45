/- A line's instructions: layout.words' walk. -/
import Derived.Test.YtdhmnjoceeolcaaAsD
namespace Go.Proofs.Ytdhmnjoceeolcaa.Asm
open Go.RowKit Go.Proofs.YtdhmnjoceeolcaaW.PrintWords Go.Proofs.YtdhmnjoceeolcaaW.PrintLast Go.Proofs.YtdhmnjoceeolcaaW.PrintMore Go.Proofs.Ytdhmnjoceeolcaa.GF
set_option linter.unusedVariables false
set_option linter.unusedSimpArgs false
def insL (x : S24) : List Value := [.int .i64 x.f0, .int .i64 x.f1, .int .i64 x.f2, .int .i64 x.f3, .int .i32 x.f4]
def insA (ws : List S24) : Array Value := (ws.flatMap insL).toArray
theorem ins_at (q : Nat) (v : Value) : ∀ (ws : List S24) (j : Nat), j < ws.length → (insL (ws.getD j z24))[q]? = some v → (ws.flatMap insL)[j * 5 + q]? = some v
  | [], j, h, _ => by simp at h
  | x :: ws, 0, _, h => by
    have hq : q < 5 := by have := (List.getElem?_eq_some_iff.1 h).1; simpa [insL] using this
    rw [List.flatMap_cons, List.getElem?_append_left (by simp [insL]; omega), Nat.zero_mul, Nat.zero_add]
    exact h
  | x :: ws, j + 1, h, h2 => by
    rw [List.flatMap_cons, List.getElem?_append_right (by simp [insL]; omega), show (j + 1) * 5 + q - (insL x).length = j * 5 + q by simp [insL]; omega]
    exact ins_at q v ws j (by simpa using h) h2
theorem ins_cell {w : World} {b : Nat} {ws : List S24} (h : w.heap[b]? = some (.cells (insA ws) 24 (0, 0))) (j q : Nat) (hj : j < ws.length) (v : Value) (hv : (insL (ws.getD j z24))[q]? = some v) : w.cell? ⟨b, j * 5 + q, none⟩ = some v := by
  rw [blk_cell h]
  exact (by simpa [insA] using ins_at q v ws j hj hv)
/-- A line's instructions. -/
def wordsV (l : List S37) (g : List Bool) (x : S37) (i : Nat) : List S24 :=
  if x.f2 = 0 then [x.f1] else
  if g.getD i false = false then [⟨x.f1.f0, x.f1.f1, x.f1.f2, x.f1.f3, wrap32 (wrap32 (whV l g x.f2 - atV l g i) - 1)⟩]
  else [⟨wrap64 (79 - x.f1.f0), x.f1.f1, x.f1.f2, x.f1.f3, 1⟩, ⟨41, 0, 0, 0, wrap32 (wrap32 (whV l g x.f2 - atV l g i) - 2)⟩]
def RetW (ws : List S24) (w : World) (e : Ending) (w' : World) : Prop :=
  ∃ b, e = .returned (.slice (some ⟨b, 0, none⟩) ws.length ws.length) ∧ Aside0 (w'.heap[b]? = some (.cells (insA ws) 24 (0, 0))) ∧ Aside0 (Below w.heap.size w w')
abbrev ib (x : S24) : Obj := .cells #[.int .i64 x.f0, .int .i64 x.f1, .int .i64 x.f2, .int .i64 x.f3, .int .i32 x.f4] 24 (0, 0)
set_option maxHeartbeats 16000000 in
set_option maxRecDepth 100000 in
theorem words_calls {w wr : World} {l : List S37} (hlen : l.length ≤ 262144) {p ga gl m : Nat} {g : List Bool} {es : Mm} (hY : Aside0 (Ly w wr l.length p ga gl m (ats l g) g es)) (hes : Aside0 (∀ k, get es k = whO l g l.length k)) (x : S37) (i : Nat) (hi : i < l.length) :
    Calls Try.prog 18 #[PP p, .agg #[.int .i64 x.f0, .int .i64 x.f1.f0, .int .i64 x.f1.f1, .int .i64 x.f1.f2, .int .i64 x.f1.f3, .int .i32 x.f1.f4, .int .i64 x.f2], .int .i64 i] wr (RetW (wordsV l g x i) wr) := by
  have hX : Aside0 (((wr.alloc (lb x)).alloc (ib x.f1)).heap[wr.heap.size]? = some (lb x)) := ⟨blk_alloc (blk_new wr (lb x)) _⟩
  have hZ : Aside0 (((wr.alloc (lb x)).alloc (ib x.f1)).heap[wr.heap.size + 1]? = some (ib x.f1)) := ⟨by have := blk_new (wr.alloc (lb x)) (ib x.f1); simpa using this⟩
  have hB : Aside0 (Below wr.heap.size wr ((wr.alloc (lb x)).alloc (ib x.f1))) := ⟨below_alloc (below_alloc (Below.refl _ _) _) _⟩
  have hr := Aside0.mk (atV_range l g i)
  have hwl : Aside0 (0 ≤ whV l g x.f2 ∧ whV l g x.f2 ≤ 2 * l.length) := ⟨whO_range l g x.f2 l.length⟩
  have hlk : Aside0 ((get es x.f2).getD 0 = whV l g x.f2) := ⟨by rw [hes.out]; rfl⟩
  have q0 : (0 : Int) ≤ (i : Int) := by omega
  have q1 : (i : Int) < (l.length : Int) := by omega
  have q2 : (i : Int) < (l.length : Int) + 1 := by omega
  have ap1 := add_plain ga i
  have ap2 := add_plain gl i
  replace hY := Aside0.mk (hY.out.below hB.out)
  go_enter Try.func18, Try.ntmps18
  go_upto_region 2 with (fail)
  generalize (wr.alloc (lb x)).alloc (ib x.f1) = W at *
  have p6 := (blk_cell hX.out 6).trans (show _ = some (.int .i64 x.f2) from rfl)
  have z0 := (blk_cell hZ.out 0).trans (show _ = some (.int .i64 x.f1.f0) from rfl)
  have z1 := (blk_cell hZ.out 1).trans (show _ = some (.int .i64 x.f1.f1) from rfl)
  have z2 := (blk_cell hZ.out 2).trans (show _ = some (.int .i64 x.f1.f2) from rfl)
  have z3 := (blk_cell hZ.out 3).trans (show _ = some (.int .i64 x.f1.f3) from rfl)
  have z4 := (blk_cell hZ.out 4).trans (show _ = some (.int .i32 x.f1.f4) from rfl)
  by_cases k1 : x.f2 = 0
  · have hws : wordsV l g x i = [x.f1] := by unfold wordsV; rw [if_pos k1]
    have e0 : (x.f2 == 0) = true := by simpa using k1
    replace hws := Aside0.mk hws
    replace k1 := Aside0.mk k1
    have hE := Aside0.mk (blk_new W (ib x.f1))
    go_wp2_with fail
    go_ret
    exact ⟨W.heap.size, by rw [hws.out]; rfl, by rw [hws.out]; exact hE, ⟨below_alloc hB.out _⟩⟩
  · have k1' : (x.f2 == 0) = false := beq_eq_false_iff_ne.2 k1
    have y0 := (blk_cell hY.out.bp 0).trans (show _ = some (.slice (some ⟨ga, 0, none⟩) (l.length + 1) (l.length + 1)) from rfl)
    have y1 := (blk_cell hY.out.bp 1).trans (show _ = some (.slice (some ⟨gl, 0, none⟩) l.length l.length) from rfl)
    have y2 := (blk_cell hY.out.bp 2).trans (show _ = some (.map (some m)) from rfl)
    have hcl := bs_cell hY.out.bl i (by rw [hY.out.lg]; exact hi)
    have hca := is_cell hY.out.ba i (by rw [hY.out.la]; omega)
    rw [ats_at l g i (by omega)] at hca
    have hlkm : ∀ k, (Instr.lookup 42 (.map (some m)) (.int .i64 x.f2) false).run Try.prog (W.drewN k) = .ok (.int .i64 (whV l g x.f2)) (W.drewN k) := fun k => by
      have := look (hY.out.mp.keep (w' := W.drewN k) rfl) x.f2
      rwa [hlk.out] at this
    have hw1 : IntKind.i64.wrap (whV l g x.f2 - atV l g i) = whV l g x.f2 - atV l g i := IntWalk.i64_in _ (by have := hwl.out; have := hr.out; omega)
    have hyes : g.getD i false = false → wordsV l g x i = [⟨x.f1.f0, x.f1.f1, x.f1.f2, x.f1.f3, wrap32 (wrap32 (whV l g x.f2 - atV l g i) - 1)⟩] := fun h => by unfold wordsV; rw [if_neg k1, if_pos h]
    have hno : g.getD i false = true → wordsV l g x i = [⟨wrap64 (79 - x.f1.f0), x.f1.f1, x.f1.f2, x.f1.f3, 1⟩, ⟨41, 0, 0, 0, wrap32 (wrap32 (whV l g x.f2 - atV l g i) - 2)⟩] := fun h => by unfold wordsV; rw [if_neg k1, if_neg (by rw [h]; decide)]
    replace k1 := Aside0.mk k1
    generalize g.getD i false = bi at *
    go_upto_region 4 with (fail)
    go_quiet (fail)
    clear hw1 hlkm hca y0 y2
    obtain ⟨d, hd⟩ : ∃ d, Aside0 (wrap32 (whV l g x.f2 - atV l g i) = d) := ⟨_, ⟨rfl⟩⟩
    rw [hd.out] at hyes hno ⊢
    replace y1 : (W.drewN nq).cell? ⟨p, 1, none⟩ = some (.slice (some ⟨gl, 0, none⟩) l.length l.length) := y1
    replace hcl : (W.drewN nq).cell? ⟨gl, i, none⟩ = some (.bool bi) := hcl
    replace hZ : Aside0 ((W.drewN nq).heap[wr.heap.size + 1]? = _) := ⟨hZ.out⟩
    replace hB : Aside0 (Below wr.heap.size wr (W.drewN nq)) := ⟨pw_below_drewN hB.out nq⟩
    generalize W.drewN nq = W8 at *
    clear hX hY p6 z0 z1 z2 z3 z4
    cases bi
    · have hws := Aside0.mk (hyes rfl)
      clear hyes hno
      have z4 := (blk_cell hZ.out 4).trans (show _ = some (.int .i32 x.f1.f4) from rfl)
      have f4 := blk_frozen hZ.out 4
      have hZ2 := Aside0.mk (blk_put hZ.out 4 (.int .i32 (wrap32 (d - 1))) rfl)
      have hB2 : Aside0 (Below wr.heap.size wr (W8.setCell ⟨wr.heap.size + 1, 4, none⟩ (.int .i32 (wrap32 (d - 1))))) := ⟨below_set hB.out (by omega)⟩
      go_upto_region 7 with (fail)
      generalize hv : wrap32 (d - 1) = v at *
      generalize W8.setCell ⟨wr.heap.size + 1, 4, none⟩ (.int .i32 v) = W9 at *
      clear z4 f4 hcl y1 hZ hB
      have z0 := (blk_cell hZ2.out 0).trans (show _ = some (.int .i64 x.f1.f0) from rfl)
      have z1 := (blk_cell hZ2.out 1).trans (show _ = some (.int .i64 x.f1.f1) from rfl)
      have z2 := (blk_cell hZ2.out 2).trans (show _ = some (.int .i64 x.f1.f2) from rfl)
      have z3 := (blk_cell hZ2.out 3).trans (show _ = some (.int .i64 x.f1.f3) from rfl)
      have z4 := (blk_cell hZ2.out 4).trans (show _ = some (.int .i32 v) from rfl)
      have hE := Aside0.mk (blk_new W9 (ib ⟨x.f1.f0, x.f1.f1, x.f1.f2, x.f1.f3, v⟩))
      replace hv := Aside0.mk hv
      go_wp2_with fail
      go_ret
      exact ⟨W9.heap.size, by rw [hws.out]; rfl, by rw [hws.out]; exact hE, ⟨below_alloc hB2.out _⟩⟩
    · have hws := Aside0.mk (hno rfl)
      clear hyes hno
      have z0 := (blk_cell hZ.out 0).trans (show _ = some (.int .i64 x.f1.f0) from rfl)
      have f0 := blk_frozen hZ.out 0
      have hZ2 := Aside0.mk (blk_put hZ.out 0 (.int .i64 (wrap64 (79 - x.f1.f0))) rfl)
      have hB2 : Aside0 (Below wr.heap.size wr (W8.setCell ⟨wr.heap.size + 1, 0, none⟩ (.int .i64 (wrap64 (79 - x.f1.f0))))) := ⟨below_set hB.out (by omega)⟩
      go_upto_region 9 with (fail)
      generalize hv : wrap64 (79 - x.f1.f0) = v at *
      generalize W8.setCell ⟨wr.heap.size + 1, 0, none⟩ (.int .i64 v) = W9 at *
      clear z0 f0 hcl y1 hZ hB
      have z4 := (blk_cell hZ2.out 4).trans (show _ = some (.int .i32 x.f1.f4) from rfl)
      have f4 := blk_frozen hZ2.out 4
      have hZ3 := Aside0.mk (blk_put hZ2.out 4 (.int .i32 1) rfl)
      have hB3 : Aside0 (Below wr.heap.size wr (W9.setCell ⟨wr.heap.size + 1, 4, none⟩ (.int .i32 1))) := ⟨below_set hB2.out (by omega)⟩
      go_upto_region 10 with (fail)
      generalize W9.setCell ⟨wr.heap.size + 1, 4, none⟩ (.int .i32 1) = Wa at *
      clear z4 f4 hZ2 hB2
      have z0 := (blk_cell hZ3.out 0).trans (show _ = some (.int .i64 v) from rfl)
      have z1 := (blk_cell hZ3.out 1).trans (show _ = some (.int .i64 x.f1.f1) from rfl)
      have z2 := (blk_cell hZ3.out 2).trans (show _ = some (.int .i64 x.f1.f2) from rfl)
      have z3 := (blk_cell hZ3.out 3).trans (show _ = some (.int .i64 x.f1.f3) from rfl)
      have z4 := (blk_cell hZ3.out 4).trans (show _ = some (.int .i32 1) from rfl)
      obtain ⟨v2, hv2⟩ : ∃ v2, Aside0 (wrap32 (d - 2) = v2) := ⟨_, ⟨rfl⟩⟩
      have hE := Aside0.mk (blk_new Wa (.cells #[.int .i64 v, .int .i64 x.f1.f1, .int .i64 x.f1.f2, .int .i64 x.f1.f3, .int .i32 1, .int .i64 41, .int .i64 0, .int .i64 0, .int .i64 0, .int .i32 (wrap32 (d - 2))] 24))
      replace hv := Aside0.mk hv
      go_wp2_with fail
      go_ret
      exact ⟨Wa.heap.size, by rw [hws.out]; rfl, by rw [hws.out]; exact hE, ⟨below_alloc hB3.out _⟩⟩
end Go.Proofs.Ytdhmnjoceeolcaa.Asm
