/- Texts laid together for a claim. -/
import Derived.Test.YtobikiffjanagaaProg
import Derived.Below
import Derived.Deep.Draws
import Derived.Deep.AppendLies
import Derived.Maps.AppendAt
import Derived.OwnWalk
import Derived.Laws.BytesArg
import Derived.Laws.MakeOwn
import Derived.Laws.OwnMore
import Derived.Deep.OwnRows
import Derived.Tactics
import Derived.Lib.ConvBytes
import Derived.Laws.Slices
import Derived.WalkKit
import Derived.KernelRfl
import Derived.RowKit3
import Derived.Deep.LoopGhost
import Derived.Deep.QuietTactic
import Derived.BigQuiet
import Derived.WideLaws
import Derived.Deep.DeepCutAuto
import Derived.Deep.CutBlock
import Derived.Deep.RegionHeld3
import Derived.Laws.Rows
import Derived.Lib.AppendStr
import Derived.ArgAppend
import Derived.Laws.IdiomCopy
import Derived.OrdersHeld
import Derived.Laws.BitsLemmas
import Derived.RowKit
import Derived.Lib.Hide
import Derived.Outline
import Derived.WalkSpells
import Derived.Lib.SliceRun
import Derived.WalkLawsBesides
import Derived.Deep.RegionWith
import Derived.StillTailTactics
import Derived.Test.YtobikiffjanagaaCp2
section
namespace Go.Proofs.Ytobikiffjanagaa.Cpy
open Go.RowKit Go.Proofs.YtobikiffjanagaaW.PrintWords Go.Proofs.YtobikiffjanagaaW.PrintLast Go.Proofs.YtobikiffjanagaaW.PrintMore Go.Proofs.Ytobikiffjanagaa.PIrCopies
set_option linter.unusedVariables false
set_option linter.unusedSimpArgs false
/-- An element that came in (as_ it stood in w0), or one that was made. -/
def tag {α : Type} (d : Kd α) (w0 : World) : Kd (Bool × α) where
  sz := d.sz
  E := d.E
  K := fun w p cs => if p.1 = true then d.K w p.2 cs else d.K w0 p.2 cs
  M := fun w base ok p cs => if p.1 = true then d.M w base ok p.2 cs else d.K w0 p.2 cs
  K_len := by
    rintro w ⟨b, x⟩ cs h
    cases b <;> exact d.K_len h
  K_one := by
    rintro w ⟨b, x⟩ cs h
    cases b <;> exact d.K_one h
  K_below := by
    rintro w w1 ⟨b, x⟩ cs hb h
    cases b
    · exact h
    · exact d.K_below hb h
  K_of_M := by
    rintro w base ok ⟨b, x⟩ cs h
    cases b
    · exact h
    · exact d.K_of_M h
  M_mono := by
    rintro w base ok ok' ⟨b, x⟩ cs hok h
    cases b
    · exact h
    · exact d.M_mono hok h
  M_bound := by
    rintro w base ok ⟨b, x⟩ cs h
    cases b
    · exact h
    · exact d.M_bound h
  M_move := by
    rintro w w1 base ok ⟨b, x⟩ cs hm h
    cases b
    · exact h
    · exact d.M_move hm h
  M_lower := by
    rintro w base base' ok ⟨b, x⟩ cs hb h
    cases b
    · exact h
    · exact d.M_lower hb h
def tgl {α : Type} (xs : List α) (i : Nat) : List (Bool × α) := (xs.take i).map (fun x => (true, x)) ++ (xs.drop i).map (fun x => (false, x))
theorem tgl_len {α : Type} (xs : List α) (i : Nat) : (tgl xs i).length = xs.length := by unfold tgl; simp; omega
theorem tgl_get {α : Type} (xs : List α) (z : α) (i : Nat) (h : i < xs.length) : (tgl xs i).getD i (false, z) = (false, xs.getD i z) := by
  unfold tgl
  rw [List.getD_eq_getElem?_getD, List.getElem?_append_right (by simp; omega)]
  simp [List.getD_eq_getElem?_getD, Nat.min_eq_left (Nat.le_of_lt h), h]
theorem tgl_set {α : Type} (xs : List α) (z : α) (i : Nat) (h : i < xs.length) : (tgl xs i).set i (true, xs.getD i z) = tgl xs (i + 1) := by
  unfold tgl
  have h1 : xs.drop i = xs.getD i z :: xs.drop (i + 1) := by rw [List.drop_eq_getElem_cons h, List.getD_eq_getElem?_getD, List.getElem?_eq_getElem h]; rfl
  have h2 : xs.take (i + 1) = xs.take i ++ [xs.getD i z] := by rw [List.take_succ_eq_append_getElem h, List.getD_eq_getElem?_getD, List.getElem?_eq_getElem h]; rfl
  rw [h1, h2, List.set_append_right _ _ (by simp; omega)]
  simp [Nat.min_eq_left (Nat.le_of_lt h)]
theorem R_map {α β : Type} {d : Kd α} {d' : Kd β} (f : β → α) (hs : d.sz = d'.sz) {e : Nat} {w : World} {base : Nat} {ok : Nat → Prop} {v : Value} {xs : List β} (hM : ∀ ok x cs, d.M w base ok (f x) cs → d'.M w base ok x cs) (h : d.R e w base ok v (xs.map f)) : d'.R e w base ok v xs := by
  obtain ⟨h1, inner, h2, h3⟩ := h
  refine ⟨h1, inner, ?_, ?_⟩
  · rw [List.length_map, hs] at h2; exact h2
  · refine ⟨by rw [h3.1, List.length_map, hs], fun j p hj => hM _ _ _ ?_⟩
    have := h3.2 j (f p) (by rw [List.getElem?_map, hj]; rfl)
    rwa [hs] at this
theorem R_unmap {α β : Type} {d : Kd α} {d' : Kd β} (f : β → α) (hs : d.sz = d'.sz) {e : Nat} {w : World} {base : Nat} {ok : Nat → Prop} {v : Value} {xs : List β} (hM : ∀ ok x cs, d'.M w base ok x cs → d.M w base ok (f x) cs) (h : d'.R e w base ok v xs) : d.R e w base ok v (xs.map f) := by
  obtain ⟨h1, inner, h2, h3⟩ := h
  refine ⟨h1, inner, ?_, ?_⟩
  · rw [List.length_map, hs]; exact h2
  · refine ⟨by rw [h3.1, List.length_map, hs], fun j p hj => ?_⟩
    rw [List.getElem?_map] at hj
    obtain ⟨x, hx, rfl⟩ := Option.map_eq_some_iff.1 hj
    have := hM _ _ _ (h3.2 j x hx)
    rwa [← hs] at this
theorem tag_all {α : Type} {d : Kd α} {w0 w : World} {e base : Nat} {ok : Nat → Prop} {v : Value} {xs : List α} (h : (tag d w0).R e w base ok v (tgl xs xs.length)) : d.R e w base ok v xs := by
  unfold tgl at h
  rw [List.take_length, List.drop_length, List.map_nil, List.append_nil] at h
  exact R_map (d := tag d w0) (fun x => (true, x)) rfl (fun ok x cs h => h) h
theorem tag_came {α : Type} {d : Kd α} {w0 w : World} {e base : Nat} {ok : Nat → Prop} {v : Value} {xs : List α} (h : (Kd.fixed d w0).R e w base ok v xs) : (tag d w0).R e w base ok v (tgl xs 0) := by
  unfold tgl
  rw [List.take_zero, List.drop_zero, List.map_nil, List.nil_append]
  exact R_unmap (d := tag d w0) (d' := Kd.fixed d w0) (fun x => (false, x)) rfl (fun ok x cs h => h) h
/-- Whole numbers are what they were. -/
theorem ints_own {w0 w : World} {base : Nat} {ok : Nat → Prop} {v : Value} {xs : List Int} (h : (Kd.fixed (Kd.int .i64) w0).R 3 w base ok v xs) : (Kd.int .i64).R 3 w base ok v xs := Kd.R_imp rfl (fun w base ok x cs h => h) h
theorem M44 {w : World} {base : Nat} {ok : Nat → Prop} {x : S44} {v2 v6 : Value} (h2 : (Kd.int .i64).R 3 w base ok v2 x.f2) (h6 : (Kd.int .i64).R 3 w base ok v6 x.f6) : k44.M w base ok x [.int .i64 x.f0, .int .i64 x.f1, v2, .int .i32 x.f3, .int .i64 x.f4, .int .i64 x.f5, v6] :=
  ⟨[_], _, rfl, rfl, [_], _, rfl, rfl, [v2], _, rfl, ⟨v2, rfl, h2⟩, [_], _, rfl, rfl, [_], _, rfl, rfl, [_], [v6], rfl, rfl, ⟨v6, rfl, h6⟩⟩
theorem M58 {w : World} {base : Nat} {ok : Nat → Prop} {x : S58} {v0 v3 : Value} (h0 : k44.R 44 w base ok v0 x.f0) (h3 : (Kd.int .i64).R 3 w base ok v3 x.f3) : k58.M w base ok x [v0, .int .i64 x.f1, .int .i64 x.f2, v3] :=
  ⟨[v0], _, rfl, ⟨v0, rfl, h0⟩, [_], _, rfl, rfl, [_], [v3], rfl, rfl, ⟨v3, rfl, h3⟩⟩
/-- How long rows may be. -/
def szI (x : S44) : Prop := x.f2.length * 8 ≤ 140737488355328 ∧ x.f6.length * 8 ≤ 140737488355328
def szB (x : S58) : Prop := x.f0.length * 88 ≤ 140737488355328 ∧ x.f3.length * 8 ≤ 140737488355328 ∧ ∀ y ∈ x.f0, szI y
def szF (x : S33) : Prop := x.f4.length * 64 ≤ 140737488355328 ∧ ∀ y ∈ x.f4, szB y
theorem getD_mem {α : Type} (l : List α) (d : α) (i : Nat) (h : i < l.length) : l.getD i d ∈ l := by
  rw [List.getD_eq_getElem?_getD, List.getElem?_eq_getElem h]; exact List.getElem_mem h
abbrev fO (x : S33) (v : Value) : Obj := .cells #[.string x.f0, .int .i64 x.f1, .int .i64 x.f2, .int .i64 x.f3, v] 33 (0, 0)
abbrev bO (v0 : Value) (a b : Int) (v3 : Value) : Obj := .cells #[v0, .int .i64 a, .int .i64 b, v3] 58 (0, 0)
abbrev iO (x : S44) (v2 v6 : Value) : Obj := .cells #[.int .i64 x.f0, .int .i64 x.f1, v2, .int .i32 x.f3, .int .i64 x.f4, .int .i64 x.f5, v6] 44 (0, 0)
abbrev agF (x : S33) (v : Value) : Value := .agg #[.string x.f0, .int .i64 x.f1, .int .i64 x.f2, .int .i64 x.f3, v]
abbrev zO : Obj := .cells #[.string ⟨#[]⟩, .int .i64 0, .int .i64 0, .int .i64 0, .slice none 0 0] 33 (0, 0)
theorem below_less {w W : World} {B B' : Nat} (h : Below B w W) (hB : B' ≤ B) : Below B' w W := ⟨h.os, h.tape, h.output, h.size, fun k hk => h.block k (by omega)⟩
set_option maxHeartbeats 32000000 in
set_option maxRecDepth 100000 in
theorem copy_calls {w : World} {x : S33} {A : Option Addr} {c : Nat} (hC : k58.C w A x.f4.length x.f4) (hc : x.f4.length ≤ c) (hz : szF x) :
    Calls Try.prog 21 #[agF x (.slice A x.f4.length c)] w fun e w' => ∃ v, e = .returned (agF x v) ∧ k58.R 58 w' w.heap.size (fun _ => True) v x.f4 ∧ Below w.heap.size w w' := by
  have F0 := Aside0.mk (blk_alloc (blk_new w (fO x (.slice A x.f4.length c))) zO)
  have Z0 : Aside0 (((w.alloc (fO x (.slice A x.f4.length c))).alloc zO).heap[w.heap.size + 1]? = some zO) := ⟨by have := blk_new (w.alloc (fO x (.slice A x.f4.length c))) zO; simpa using this⟩
  have L0 : Aside0 (Below w.heap.size w ((w.alloc (fO x (.slice A x.f4.length c))).alloc zO)) := ⟨below_alloc (below_alloc (Below.refl _ _) _) _⟩
  have hR0 : Aside0 (ReadsRow (k58.K w) k58.sz ((w.alloc (fO x (.slice A x.f4.length c))).alloc zO) A x.f4.length x.f4) := ⟨ReadsRow.imp_ hC L0.out (fun _ _ h => h)⟩
  have hfb : Aside0 (w.heap.size + 1 < ((w.alloc (fO x (.slice A x.f4.length c))).alloc zO).heap.size) := ⟨blk_lt Z0.out⟩
  clear hC
  replace hz := Aside0.mk hz
  go_enter Try.func21, Try.ntmps21
  go_upto_region 1 with (fail)
  generalize (w.alloc (fO x (.slice A x.f4.length c))).alloc zO = W0 at *
  have a4 := (blk_cell F0.out 4).trans (show _ = some (.slice A x.f4.length c) from rfl)
  have b4 := blk_frozen F0.out 4
  have hclone := clone34 (w0 := w) (w := W0) hR0.out hc hz.out.1
  replace hclone := Aside0.mk hclone
  go_upto_region 2 with (go_at_call 34; (with_reducible refine hclone.out.mono ?_); rintro e w1 ⟨v, rfl, hR, hb1⟩; obtain ⟨Av, cv, hve⟩ := Kd.R_slice hR; subst hve; replace hR := Aside0.mk (tag_came (Kd.R_mono (Kd.R_bound hR) (ok' := fun k => W0.heap.size ≤ k) (fun _ hk => hk.2.1))); replace F0 := Aside0.mk (blk_below F0.out hb1); replace Z0 := Aside0.mk (blk_below Z0.out hb1); have L1 := Aside0.mk (below_step L0.out hb1); have hs1 := Aside0.mk (below_size hb1); have a4 := (blk_cell F0.out 4).trans (show _ = some (.slice A x.f4.length c) from rfl); have b4 := blk_frozen F0.out 4; clear hb1)
  replace hR := Aside0.mk (Kd.R_far hR.out (p := ⟨w.heap.size, 4, none⟩) (fun k hk => by have := hfb.out; show k ≠ w.heap.size; omega) (.slice Av x.f4.length cv))
  replace F0 := Aside0.mk (blk_put F0.out 4 (.slice Av x.f4.length cv) (cs' := #[.string x.f0, .int .i64 x.f1, .int .i64 x.f2, .int .i64 x.f3, (.slice Av x.f4.length cv)]) rfl)
  replace Z0 := Aside0.mk (blk_far Z0.out (p := ⟨w.heap.size, 4, none⟩) (by show w.heap.size + 1 ≠ w.heap.size; omega) (.slice Av x.f4.length cv))
  replace L1 : Aside0 (Below w.heap.size w (w1.setCell ⟨w.heap.size, 4, none⟩ (.slice Av x.f4.length cv))) := ⟨below_set L1.out (Nat.le_refl _)⟩
  replace hs1 : Aside0 (W0.heap.size ≤ (w1.setCell ⟨w.heap.size, 4, none⟩ (.slice Av x.f4.length cv)).heap.size) := ⟨Nat.le_trans hs1.out (((Below.refl 0 w1).setCell (Nat.zero_le _) _).size)⟩
  generalize w1.setCell ⟨w.heap.size, 4, none⟩ (.slice Av x.f4.length cv) = W1 at *
  clear a4 b4 hclone hR0
  have a4 := (blk_cell F0.out 4).trans (show _ = some (.slice Av x.f4.length cv) from rfl)
  go_wp2_with fail
  go_loopw [14] (fun u14 wr => ∃ i : Nat, i ≤ x.f4.length ∧ u14 = .int .i64 i ∧ Aside0 ((tag k58 w).R 58 wr W0.heap.size (fun k => W0.heap.size ≤ k) (.slice Av x.f4.length cv) (tgl x.f4 i)) ∧ Aside0 (wr.heap[w.heap.size]? = some (fO x (.slice Av x.f4.length cv))) ∧ Aside0 (wr.heap[w.heap.size + 1]? = some zO) ∧ Aside0 (Below w.heap.size w wr) ∧ Aside0 (W0.heap.size ≤ wr.heap.size)) (fun u _ => x.f4.length - (intOf u).toNat)
  case atStart => exact ⟨0, Nat.zero_le _, rfl, hR, F0, Z0, L1, hs1⟩
  case round =>
    clear hR F0 Z0 L1 hs1 a4
    obtain ⟨i, hi, rfl, hR, F0, Z0, L1, hs1⟩ := hrel
    obtain ⟨ws, rfl⟩ : ∃ ws : World, ws = wr := ⟨_, rfl⟩
    have a4 := (blk_cell F0.out 4).trans (show _ = some (.slice Av x.f4.length cv) from rfl)
    by_cases hlt : i < x.f4.length
    · have q0 : (0 : Int) ≤ (i : Int) := by omega
      have q1 : (i : Int) < (x.f4.length : Int) := by omega
      obtain ⟨g, cap, eg, hg0, hg1, _⟩ := Kd.R_form hR.out (by rw [tgl_len]; omega)
      injection eg with eg1 eg2 eg3
      subst eg1
      subst eg3
      clear eg2
      obtain ⟨cs, _, hM, hcc, hff⟩ := Kd.R_elem hR.out (false, z58) (i : Int) q0 q1
      rw [Int.toNat_natCast, tgl_get x.f4 z58 i hlt] at hM
      simp only [Int.toNat_natCast] at hcc hff
      have hM' : k58.K w (x.f4.getD i z58) cs := hM
      obtain ⟨A0, c0, A3, c3, rfl, h0l, h0C, h3l, h3C⟩ := k58_open hM'
      have hsz := Aside0.mk (hz.out.2 _ (getD_mem x.f4 z58 i hlt))
      have hset := Aside0.mk (tgl_set x.f4 z58 i hlt)
      clear hM hM'
      have y0 := hcc 0 _ rfl
      have y1 := hcc 1 _ rfl
      have y2 := hcc 2 _ rfl
      have y3 := hcc 3 _ rfl
      simp only [show (tag k58 w).sz = 4 from rfl, Nat.add_zero] at y0 y1 y2 y3 hff
      clear hcc
      generalize x.f4.getD i z58 = b at *
      have ap := add_plain g (i * 4)
      have hB := Aside0.mk (blk_new ws (bO (.slice A0 b.f0.length c0) b.f1 b.f2 (.slice A3 b.f3.length c3)))
      have hws : Aside0 (Below ws.heap.size ws (ws.alloc (bO (.slice A0 b.f0.length c0) b.f1 b.f2 (.slice A3 b.f3.length c3)))) := ⟨below_alloc (Below.refl _ _) _⟩
      obtain ⟨bb, hbb⟩ : ∃ bb, ws.heap.size = bb := ⟨_, rfl⟩
      have hbw : Aside0 (bb < (ws.alloc (bO (.slice A0 b.f0.length c0) b.f1 b.f2 (.slice A3 b.f3.length c3))).heap.size) := ⟨by simp [← hbb]⟩
      rw [hbb] at hB
      replace h0C := Aside0.mk h0C
      replace h3C := Aside0.mk h3C
      replace hff := Aside0.mk hff
      go_upto_region 5 with (fail)
      replace hbb := Aside0.mk hbb
      generalize ws.alloc (bO (.slice A0 b.f0.length c0) b.f1 b.f2 (.slice A3 b.f3.length c3)) = Wb at *
      have LB := Aside0.mk (below_step L1.out hws.out)
      have z3 := (blk_cell hB.out 3).trans (show _ = some (.slice A3 b.f3.length c3) from rfl)
      have zf3 := blk_frozen hB.out 3
      have hcl3 := Aside0.mk (clone35 (w0 := w) (w := Wb) (ReadsRow.imp_ h3C.out LB.out (fun _ _ h => h)) h3l hsz.out.2.1)
      clear y0 y1 y2 y3
      go_upto_region 6 with (go_at_call 35; (with_reducible refine hcl3.out.mono ?_); rintro e w2 ⟨v3, rfl, hR3, hb2⟩; obtain ⟨A3', c3', hve⟩ := Kd.R_slice hR3; subst hve; replace hR3 := Aside0.mk (Kd.R_mono (Kd.R_bound (ints_own hR3)) (ok' := fun k => Wb.heap.size ≤ k) (fun _ hk => hk.2.1)); replace hB := Aside0.mk (blk_below hB.out hb2); replace hws := Aside0.mk (below_step hws.out hb2); replace LB := Aside0.mk (below_step LB.out hb2); replace hb2 := Aside0.mk hb2; have z3 := (blk_cell hB.out 3).trans (show _ = some (.slice A3 b.f3.length c3) from rfl); have zf3 := blk_frozen hB.out 3)
      have hbge : Aside0 (w.heap.size ≤ bb) := ⟨by rw [← hbb.out]; exact below_size L1.out⟩
      replace hR3 := Aside0.mk (Kd.R_far hR3.out (p := ⟨bb, 3, none⟩) (fun k hk => by have := hbw.out; show k ≠ bb; omega) (.slice A3' b.f3.length c3'))
      replace hB := Aside0.mk (blk_put hB.out 3 (.slice A3' b.f3.length c3') (cs' := #[.slice A0 b.f0.length c0, .int .i64 b.f1, .int .i64 b.f2, .slice A3' b.f3.length c3']) rfl)
      replace hws : Aside0 (Below ws.heap.size ws (w2.setCell ⟨bb, 3, none⟩ (.slice A3' b.f3.length c3'))) := ⟨below_set hws.out (by rw [hbb.out]; exact Nat.le_refl _)⟩
      replace LB : Aside0 (Below w.heap.size w (w2.setCell ⟨bb, 3, none⟩ (.slice A3' b.f3.length c3'))) := ⟨below_set LB.out hbge.out⟩
      have hsz2 : Aside0 (Wb.heap.size ≤ (w2.setCell ⟨bb, 3, none⟩ (.slice A3' b.f3.length c3')).heap.size) := ⟨Nat.le_trans (below_size hb2.out) (((Below.refl 0 w2).setCell (Nat.zero_le _) _).size)⟩
      generalize w2.setCell ⟨bb, 3, none⟩ (.slice A3' b.f3.length c3') = W2 at *
      clear z3 zf3 hcl3 hb2 h3C
      replace hR3 := Aside0.mk (Kd.R_mono (Kd.R_bound hR3.out) (ok' := fun k => Wb.heap.size ≤ k ∧ k < W2.heap.size) (fun _ hk => ⟨hk.1, hk.2.2.1⟩))
      have z0 := (blk_cell hB.out 0).trans (show _ = some (.slice A0 b.f0.length c0) from rfl)
      have zf0 := blk_frozen hB.out 0
      have hcl0 := Aside0.mk (clone36 (w0 := w) (w := W2) (ReadsRow.imp_ h0C.out LB.out (fun _ _ h => h)) h0l hsz.out.1)
      go_upto_region 7 with (go_at_call 36; (with_reducible refine hcl0.out.mono ?_); rintro e w3 ⟨v0, rfl, hRc, hb3⟩; obtain ⟨Ac, cc, hve⟩ := Kd.R_slice hRc; subst hve; replace hRc := Aside0.mk (tag_came (Kd.R_mono (Kd.R_bound hRc) (ok' := fun k => W2.heap.size ≤ k) (fun _ hk => hk.2.1))); replace hR3 := Aside0.mk (Kd.R_below hR3.out hb3); replace hB := Aside0.mk (blk_below hB.out hb3); replace hws := Aside0.mk (below_step hws.out hb3); replace LB := Aside0.mk (below_step LB.out hb3); replace hb3 := Aside0.mk hb3; have z0 := (blk_cell hB.out 0).trans (show _ = some (.slice A0 b.f0.length c0) from rfl); have zf0 := blk_frozen hB.out 0)
      have hbN : Aside0 (bb < W2.heap.size) := ⟨by have := hbw.out; have := hsz2.out; omega⟩
      replace hR3 := Aside0.mk (Kd.R_far hR3.out (p := ⟨bb, 0, none⟩) (fun k hk => by have := hbw.out; have := hk.1; show k ≠ bb; omega) (.slice Ac b.f0.length cc))
      replace hRc := Aside0.mk (Kd.R_far hRc.out (p := ⟨bb, 0, none⟩) (fun k hk => by have := hbN.out; show k ≠ bb; omega) (.slice Ac b.f0.length cc))
      replace hB := Aside0.mk (blk_put hB.out 0 (.slice Ac b.f0.length cc) (cs' := #[.slice Ac b.f0.length cc, .int .i64 b.f1, .int .i64 b.f2, .slice A3' b.f3.length c3']) rfl)
      replace hws : Aside0 (Below ws.heap.size ws (w3.setCell ⟨bb, 0, none⟩ (.slice Ac b.f0.length cc))) := ⟨below_set hws.out (by rw [hbb.out]; exact Nat.le_refl _)⟩
      replace LB : Aside0 (Below w.heap.size w (w3.setCell ⟨bb, 0, none⟩ (.slice Ac b.f0.length cc))) := ⟨below_set LB.out hbge.out⟩
      have hsz3 : Aside0 (W2.heap.size ≤ (w3.setCell ⟨bb, 0, none⟩ (.slice Ac b.f0.length cc)).heap.size) := ⟨Nat.le_trans (below_size hb3.out) (((Below.refl 0 w3).setCell (Nat.zero_le _) _).size)⟩
      generalize w3.setCell ⟨bb, 0, none⟩ (.slice Ac b.f0.length cc) = W4 at *
      clear z0 zf0 hcl0 hb3 h0C
      have z0 := (blk_cell hB.out 0).trans (show _ = some (.slice Ac b.f0.length cc) from rfl)
      have hLW : Aside0 (Below W2.heap.size W4 W4) := ⟨Below.refl _ _⟩
      go_wp2_with fail
      go_loopw [30] (fun u30 wr => ∃ k : Nat, k ≤ b.f0.length ∧ u30 = .int .i64 k ∧ Aside0 (Below W2.heap.size W4 wr) ∧ Aside0 ((tag k44 w).R 44 wr W2.heap.size (fun k => W2.heap.size ≤ k) (.slice Ac b.f0.length cc) (tgl b.f0 k))) (fun u _ => b.f0.length - (intOf u).toNat)
      case atStart => exact ⟨0, Nat.zero_le _, rfl, hLW, hRc⟩
      case round =>
        clear hRc hLW z0
        obtain ⟨k, hk, rfl, hLW, hRc⟩ := hrel
        replace hB := Aside0.mk ((hLW.out.block _ hbN.out).trans hB.out)
        have z0 := (blk_cell hB.out 0).trans (show _ = some (.slice Ac b.f0.length cc) from rfl)
        by_cases hlk : k < b.f0.length
        · skip
          obtain ⟨gc, capc, ec, hgc0, hgc1, _⟩ := Kd.R_form hRc.out (by rw [tgl_len]; omega)
          injection ec with ec1 ec2 ec3
          subst ec1
          subst ec3
          clear ec2
          have p0 : (0 : Int) ≤ (k : Int) := by omega
          have p1 : (k : Int) < (b.f0.length : Int) := by omega
          obtain ⟨ds, _, hM, hcc, hff⟩ := Kd.R_elem hRc.out (false, z44) (k : Int) p0 p1
          rw [Int.toNat_natCast, tgl_get b.f0 z44 k hlk] at hM
          simp only [Int.toNat_natCast] at hcc
          have hM' : k44.K w (b.f0.getD k z44) ds := hM
          obtain ⟨A2, c2, A6, c6, rfl, h2l, h2C, h6l, h6C⟩ := k44_open hM'
          have hzi := Aside0.mk (hsz.out.2.2 _ (getD_mem b.f0 z44 k hlk))
          have hset2 := Aside0.mk (tgl_set b.f0 z44 k hlk)
          clear hM hM' hff
          have x0 := hcc 0 _ rfl
          have x1 := hcc 1 _ rfl
          have x2 := hcc 2 _ rfl
          have x3 := hcc 3 _ rfl
          have x4 := hcc 4 _ rfl
          have x5 := hcc 5 _ rfl
          have x6 := hcc 6 _ rfl
          simp only [show (tag k44 w).sz = 7 from rfl, Nat.add_zero] at x0 x1 x2 x3 x4 x5 x6
          clear hcc
          generalize b.f0.getD k z44 = y at *
          have ap2 := add_plain gc (k * 7)
          have hX := Aside0.mk (blk_new wr (iO y (.slice A2 y.f2.length c2) (.slice A6 y.f6.length c6)))
          have hwx : Aside0 (Below wr.heap.size wr (wr.alloc (iO y (.slice A2 y.f2.length c2) (.slice A6 y.f6.length c6)))) := ⟨below_alloc (Below.refl _ _) _⟩
          have LX : Aside0 (Below w.heap.size w (wr.alloc (iO y (.slice A2 y.f2.length c2) (.slice A6 y.f6.length c6)))) := ⟨below_alloc (LB.out.trans (below_less hLW.out (by have := hbge.out; have := hbN.out; omega))) _⟩
          obtain ⟨xb, hxe⟩ : ∃ xb, wr.heap.size = xb := ⟨_, rfl⟩
          have hxb : Aside0 (xb < (wr.alloc (iO y (.slice A2 y.f2.length c2) (.slice A6 y.f6.length c6))).heap.size) := ⟨by simp [← hxe]⟩
          rw [hxe] at hX
          replace h2C := Aside0.mk h2C
          replace h6C := Aside0.mk h6C
          replace h2l := Aside0.mk h2l
          replace h6l := Aside0.mk h6l
          go_upto_region 10 with (fail)
          replace hxe := Aside0.mk hxe
          generalize wr.alloc (iO y (.slice A2 y.f2.length c2) (.slice A6 y.f6.length c6)) = W5 at *
          clear x0 x1 x2 x3 x4 x5 x6
          refine start_ (n := 10) (S := fun w' => w'.cell? ⟨xb, 2, none⟩ = some (.slice A2 y.f2.length c2) ∧ w'.cell? ⟨xb, 6, none⟩ = some (.slice A6 y.f6.length c6)) (ds := [7, 9]) #[false, false, false, false, false, false, false, false, false, false] (by kernel_rfl) rfl rfl (⟨(blk_cell hX.out 2).trans rfl, (blk_cell hX.out 6).trans rfl⟩) (fun hHeld => ?_)
          replace hX : Aside0 (W5.drew.heap[xb]? = some (iO y (.slice A2 y.f2.length c2) (.slice A6 y.f6.length c6))) := ⟨hX.out⟩
          replace hwx : Aside0 (Below wr.heap.size wr W5.drew) := ⟨below_drew hwx.out⟩
          replace LX : Aside0 (Below w.heap.size w W5.drew) := ⟨below_drew LX.out⟩
          replace hxb : Aside0 (xb < W5.drew.heap.size) := ⟨hxb.out⟩
          generalize W5.drew = W6 at *
          have hs6 : Aside0 (wr.heap.size ≤ W6.heap.size) := ⟨below_size hwx.out⟩
          refine pure_ (i := 0) (N := some 35) (v := ?_) (a' := ?_) #[true, false, false, false, false, false, false, false, false, false] rfl rfl (by kernel_rfl) (fun _ _ _ h => h) (Or.inl ⟨by rfl, ?_⟩) ?_ ?_
          rotate_left
          · intro w'
            go_simp
            try with_reducible rfl
          rotate_left
          · simp only [Act.put, List.setIfInBounds_toArray, List.set_cons_zero, List.set_cons_succ]
            rfl
          refine pure_ (i := 3) (N := some 38) (v := ?_) (a' := ?_) #[true, false, false, true, false, false, false, false, false, false] rfl rfl (by kernel_rfl) (fun _ _ _ h => h) (Or.inl ⟨by rfl, ?_⟩) ?_ ?_
          rotate_left
          · intro w'
            go_simp
            try with_reducible rfl
          rotate_left
          · simp only [Act.put, List.setIfInBounds_toArray, List.set_cons_zero, List.set_cons_succ]
            rfl
          refine take_ (i := 1) (N := some 36) (v := ?_) (a' := ?_) #[true, true, false, true, false, false, false, false, false, false] rfl rfl (by kernel_rfl) (fun _ _ _ h => h) (Or.inl ⟨by rfl, ?_⟩) hHeld ?_ ?_
          rotate_left
          · intro w' s0
            obtain ⟨s0_, s1_⟩ := s0
            go_simp
            try with_reducible rfl
          rotate_left
          · simp only [Act.put, List.setIfInBounds_toArray, List.set_cons_zero, List.set_cons_succ]
            rfl
          refine take_ (i := 4) (N := some 39) (v := ?_) (a' := ?_) #[true, true, false, true, true, false, false, false, false, false] rfl rfl (by kernel_rfl) (fun _ _ _ h => h) (Or.inl ⟨by rfl, ?_⟩) hHeld ?_ ?_
          rotate_left
          · intro w' s0
            obtain ⟨s0_, s1_⟩ := s0
            go_simp
            try with_reducible rfl
          rotate_left
          · simp only [Act.put, List.setIfInBounds_toArray, List.set_cons_zero, List.set_cons_succ]
            rfl
          refine one_ (i := 2) (N := some 37) #[true, true, true, true, true, false, false, false, false, false] rfl rfl (by kernel_rfl) (by decide) (fun K hK => ?_)
          refine goes_ Try.func35 (by kernel_rfl) rfl #[.slice A2 y.f2.length c2] (by rfl) rfl rfl (by (try simp only [List.map_toArray, List.map_cons, List.map_nil]); first | done | rfl) ?_
          have hcl := clone35 (w0 := w) (w := W6) (ReadsRow.imp_ h2C.out LX.out (fun _ _ h => h)) h2l.out hzi.out.1
          with_reducible refine hcl.mono ?_
          clear hcl
          rintro e w' ⟨v2, rfl, hR2, hb⟩
          obtain ⟨A2', c2', hve⟩ := Kd.R_slice hR2
          subst hve
          refine ⟨_, rfl, ?_⟩
          replace hR2 := Aside0.mk (Kd.R_mono (Kd.R_bound (ints_own hR2)) (ok' := fun q => W6.heap.size ≤ q) (fun _ hk => hk.2.1))
          replace hX := Aside0.mk (blk_below hX.out hb)
          replace hwx := Aside0.mk (below_step hwx.out hb)
          replace LX := Aside0.mk (below_step LX.out hb)
          have hsx := Aside0.mk (below_size hb)
          refine hK.out _ _ ⟨(blk_cell hX.out 2).trans rfl, (blk_cell hX.out 6).trans rfl⟩ (fun hHeld => ?_)
          clear hK K hb
          generalize w' = W7 at *
          refine norm_ (a' := ?_) ?_ ?_
          rotate_left
          · simp only [Act.put, List.setIfInBounds_toArray, List.set_cons_zero, List.set_cons_succ]
            rfl
          refine pure_ (i := 6) (N := some 41) (v := ?_) (a' := ?_) #[true, true, true, true, true, false, true, false, false, false] rfl rfl (by kernel_rfl) (fun _ _ _ h => h) (Or.inl ⟨by rfl, ?_⟩) ?_ ?_
          rotate_left
          · intro w'
            go_simp
            try with_reducible rfl
          rotate_left
          · simp only [Act.put, List.setIfInBounds_toArray, List.set_cons_zero, List.set_cons_succ]
            rfl
          refine one_ (i := 5) (N := some 40) #[true, true, true, true, true, true, true, false, false, false] rfl rfl (by kernel_rfl) (by decide) (fun K hK => ?_)
          refine goes_ Try.func35 (by kernel_rfl) rfl #[.slice A6 y.f6.length c6] (by rfl) rfl rfl (by (try simp only [List.map_toArray, List.map_cons, List.map_nil]); first | done | rfl) ?_
          have hcl := clone35 (w0 := w) (w := W7) (ReadsRow.imp_ h6C.out LX.out (fun _ _ h => h)) h6l.out hzi.out.2
          with_reducible refine hcl.mono ?_
          clear hcl
          rintro e w' ⟨v6, rfl, hR6, hb⟩
          obtain ⟨A6', c6', hve⟩ := Kd.R_slice hR6
          subst hve
          refine ⟨_, rfl, ?_⟩
          replace hR6 := Aside0.mk (Kd.R_mono (Kd.R_bound (ints_own hR6)) (ok' := fun q => W7.heap.size ≤ q) (fun _ hk => hk.2.1))
          replace hR2 := Aside0.mk (Kd.R_below hR2.out hb)
          replace hX := Aside0.mk (blk_below hX.out hb)
          replace hwx := Aside0.mk (below_step hwx.out hb)
          replace LX := Aside0.mk (below_step LX.out hb)
          have hsy := Aside0.mk (below_size hb)
          refine hK.out _ _ ⟨(blk_cell hX.out 2).trans rfl, (blk_cell hX.out 6).trans rfl⟩ (fun hHeld => ?_)
          clear hK K hb
          generalize w' = W8 at *
          refine norm_ (a' := ?_) ?_ ?_
          rotate_left
          · simp only [Act.put, List.setIfInBounds_toArray, List.set_cons_zero, List.set_cons_succ]
            rfl
          refine last_ (i := 7) (N := none) #[true, true, true, true, true, true, true, true, false, false] rfl rfl (by kernel_rfl) (by decide) (fun K hK => ?_)
          have s2_ := (blk_cell hX.out 2).trans (show _ = some (.slice A2 y.f2.length c2) from rfl)
          have t2_ := blk_frozen hX.out 2
          refine skip_ (w1 := W8.setCell ⟨xb, 2, none⟩ (.slice A2' y.f2.length c2')) (by rfl) rfl ?_ ?_
          · go_simp
          replace hR2 := Aside0.mk (Kd.R_far hR2.out (p := ⟨xb, 2, none⟩) (fun q hq => by have := hxb.out; show q ≠ xb; omega) (.slice A2' y.f2.length c2'))
          replace hR6 := Aside0.mk (Kd.R_far hR6.out (p := ⟨xb, 2, none⟩) (fun q hq => by have := hxb.out; have := hsx.out; show q ≠ xb; omega) (.slice A2' y.f2.length c2'))
          replace hX : Aside0 ((W8.setCell ⟨xb, 2, none⟩ (.slice A2' y.f2.length c2')).heap[xb]? = some (iO y (.slice A2' y.f2.length c2') (.slice A6 y.f6.length c6))) := ⟨blk_put hX.out 2 _ rfl⟩
          replace hwx : Aside0 (Below wr.heap.size wr (W8.setCell ⟨xb, 2, none⟩ (.slice A2' y.f2.length c2'))) := ⟨below_set hwx.out (by rw [hxe.out]; exact Nat.le_refl _)⟩
          refine hK.out _ _ ?_
          clear hK K s2_ t2_
          generalize W8.setCell ⟨xb, 2, none⟩ (.slice A2' y.f2.length c2') = W8 at *
          refine pure_ (i := 8) (N := some 42) (v := ?_) (a' := ?_) #[true, true, true, true, true, true, true, true, true, false] rfl rfl (by kernel_rfl) (fun _ _ _ h => h) (Or.inl ⟨by rfl, ?_⟩) ?_ ?_
          rotate_left
          · intro w'
            go_simp
            try with_reducible rfl
          rotate_left
          · simp only [Act.put, List.setIfInBounds_toArray, List.set_cons_zero, List.set_cons_succ]
            rfl
          refine last_ (i := 9) (N := none) #[true, true, true, true, true, true, true, true, true, true] rfl rfl (by kernel_rfl) (by decide) (fun K hK => ?_)
          have s2_ := (blk_cell hX.out 6).trans (show _ = some (.slice A6 y.f6.length c6) from rfl)
          have t2_ := blk_frozen hX.out 6
          refine skip_ (w1 := W8.setCell ⟨xb, 6, none⟩ (.slice A6' y.f6.length c6')) (by rfl) rfl ?_ ?_
          · go_simp
          replace hR2 := Aside0.mk (Kd.R_far hR2.out (p := ⟨xb, 6, none⟩) (fun q hq => by have := hxb.out; show q ≠ xb; omega) (.slice A6' y.f6.length c6'))
          replace hR6 := Aside0.mk (Kd.R_far hR6.out (p := ⟨xb, 6, none⟩) (fun q hq => by have := hxb.out; have := hsx.out; show q ≠ xb; omega) (.slice A6' y.f6.length c6'))
          replace hX : Aside0 ((W8.setCell ⟨xb, 6, none⟩ (.slice A6' y.f6.length c6')).heap[xb]? = some (iO y (.slice A2' y.f2.length c2') (.slice A6' y.f6.length c6'))) := ⟨blk_put hX.out 6 _ rfl⟩
          replace hwx : Aside0 (Below wr.heap.size wr (W8.setCell ⟨xb, 6, none⟩ (.slice A6' y.f6.length c6'))) := ⟨below_set hwx.out (by rw [hxe.out]; exact Nat.le_refl _)⟩
          refine hK.out _ _ ?_
          clear hK K s2_ t2_
          generalize W8.setCell ⟨xb, 6, none⟩ (.slice A6' y.f6.length c6') = W8 at *
          refine done_ (by kernel_rfl) ?_
          have hRx := Aside0.mk (Kd.R_below hRc.out hwx.out)
          obtain ⟨ds, hdl, _, hcc, _⟩ := Kd.R_elem hRx.out (false, z44) (k : Int) p0 p1
          replace hdl := Aside0.mk hdl
          replace hcc := Aside0.mk hcc
          have hB8 := Aside0.mk (blk_below hB.out hwx.out)
          have z8 := (blk_cell hB8.out 0).trans (show _ = some (.slice (some ⟨gc, 0, none⟩) b.f0.length cc) from rfl)
          have x0 := (blk_cell hX.out 0).trans (show _ = some (.int .i64 y.f0) from rfl)
          have x1 := (blk_cell hX.out 1).trans (show _ = some (.int .i64 y.f1) from rfl)
          have x2 := (blk_cell hX.out 2).trans (show _ = some (.slice A2' y.f2.length c2') from rfl)
          have x3 := (blk_cell hX.out 3).trans (show _ = some (.int .i32 y.f3) from rfl)
          have x4 := (blk_cell hX.out 4).trans (show _ = some (.int .i64 y.f4) from rfl)
          have x5 := (blk_cell hX.out 5).trans (show _ = some (.int .i64 y.f5) from rfl)
          have x6 := (blk_cell hX.out 6).trans (show _ = some (.slice A6' y.f6.length c6') from rfl)
          have hszs : Aside0 (W2.heap.size ≤ wr.heap.size) := ⟨by have := hLW.out.size; have := hsz3.out; omega⟩
          have hMy : Aside0 (k44.M W8 W2.heap.size (fun q => wr.heap.size ≤ q) y [.int .i64 y.f0, .int .i64 y.f1, .slice A2' y.f2.length c2', .int .i32 y.f3, .int .i64 y.f4, .int .i64 y.f5, .slice A6' y.f6.length c6']) := ⟨M44 (Kd.R_lower (Kd.R_mono hR2.out (fun q hq => by have := hs6.out; omega)) (by have := hs6.out; have := hszs.out; omega)) (Kd.R_lower (Kd.R_mono hR6.out (fun q hq => by have := hs6.out; have := hsx.out; omega)) (by have := hs6.out; have := hszs.out; have := hsx.out; omega))⟩
          have hL8 : Aside0 (Below W2.heap.size W4 W8) := ⟨hLW.out.trans (below_less hwx.out hszs.out)⟩
          have hkw : IntKind.i64.wrap ((k : Int) + 1) = (k : Int) + 1 := IntWalk.i64_in _ (by have := hsz.out.1; omega)
          clear hRc hLW hB z0
          go_wp2_with (((with_reducible refine gate_store (t := 44) (p := 47) rfl ?_); (refine Kd.R_store (tag k44 w) (w0 := W4) W2.heap.size rfl rfl 44 (.tmp 47) (.tmp 46) rfl 44 (k : Int) 0 (tgl b.f0 k) (true, y) (.agg #[.int .i64 y.f0, .int .i64 y.f1, .slice A2' y.f2.length c2', .int .i32 y.f3, .int .i64 y.f4, .int .i64 y.f5, .slice A6' y.f6.length c6']) [.int .i64 y.f0, .int .i64 y.f1, .slice A2' y.f2.length c2', .int .i32 y.f3, .int .i64 y.f4, .int .i64 y.f5, .slice A6' y.f6.length c6'] ds (fun q => W2.heap.size ≤ q) (fun q => wr.heap.size ≤ q) rfl (by simp [show (tag k44 w).sz = 7 from rfl]) rfl rfl (by kernel_rfl) (by simp [Value.oneCell']) hRx.out p0 p1 hdl.out hcc.out (show 0 + 7 ≤ 7 from by decide) (by rw [List.take_zero, List.nil_append, List.drop_of_length_le (by rw [hdl.out]; exact Nat.le_refl _), List.append_nil]; exact hMy.out) (fun q hq => ⟨by have := hszs.out; omega, by omega⟩) hL8.out ?_); intro w9 hR9 hL9 hg9; rw [Int.toNat_natCast, hset2.out] at hR9; replace hR9 := Aside0.mk hR9; replace hL9 := Aside0.mk hL9; clear hg9))
          go_roundw
          case rel => exact ⟨k + 1, by omega, by go_num, hL9, hR9⟩
          case measure => simp [intOf]; omega
        · obtain rfl : k = b.f0.length := by omega
          replace hRc := Aside0.mk (tag_all hRc.out)
          replace hR3 := Aside0.mk (Kd.R_step hR3.out (fun k hk _ => hLW.out.block k hk.2))
          have hlo := Aside0.mk (below_less hLW.out (show ws.heap.size ≤ W2.heap.size by rw [hbb.out]; have := hbN.out; omega))
          have hBw : Aside0 (Below bb ws wr) := ⟨below_less (hws.out.trans hlo.out) (by rw [hbb.out]; exact Nat.le_refl _)⟩
          have hFs := Aside0.mk (blk_below F0.out (below_less hBw.out (by rw [hbb.out]; exact Nat.le_refl _)))
          have hRs := Aside0.mk (Kd.R_below hR.out (below_less hBw.out (by rw [hbb.out]; exact Nat.le_refl _)))
          have hgb : Aside0 (g < bb) := ⟨by rw [← hbb.out]; exact hg1⟩
          have hW0b : Aside0 (W0.heap.size ≤ bb) := ⟨by rw [← hbb.out]; exact hs1.out⟩
          obtain ⟨ds, hdl, _, hcc, _⟩ := Kd.R_elem hRs.out (false, z58) (i : Int) q0 q1
          replace hdl := Aside0.mk hdl
          replace hcc := Aside0.mk hcc
          have a4 := (blk_cell hFs.out 4).trans (show _ = some (.slice (some ⟨g, 0, none⟩) x.f4.length cv) from rfl)
          have y0 := (blk_cell hB.out 0).trans (show _ = some (.slice Ac b.f0.length cc) from rfl)
          have y1 := (blk_cell hB.out 1).trans (show _ = some (.int .i64 b.f1) from rfl)
          have y2 := (blk_cell hB.out 2).trans (show _ = some (.int .i64 b.f2) from rfl)
          have y3 := (blk_cell hB.out 3).trans (show _ = some (.slice A3' b.f3.length c3') from rfl)
          have hMb : Aside0 (k58.M wr W0.heap.size (fun q => bb ≤ q) b [.slice Ac b.f0.length cc, .int .i64 b.f1, .int .i64 b.f2, .slice A3' b.f3.length c3']) := ⟨M58 (Kd.R_lower (Kd.R_mono hRc.out (fun q hq => by have := hbN.out; omega)) (by have := hbN.out; have := hW0b.out; omega)) (Kd.R_lower (Kd.R_mono hR3.out (fun q hq => by have := hbw.out; have := hq.1; omega)) (by have := hbw.out; have := hW0b.out; omega))⟩
          have hLs : Aside0 (Below W0.heap.size ws wr) := ⟨below_less hBw.out hW0b.out⟩
          have hiw : IntKind.i64.wrap ((i : Int) + 1) = (i : Int) + 1 := IntWalk.i64_in _ (by have := hz.out.1; omega)
          clear hR hRc hLW hB z0 hlo hws hbb
          go_wp2_with (((with_reducible refine gate_store (t := 58) (p := 53) rfl ?_); (refine Kd.R_store (tag k58 w) (w0 := ws) W0.heap.size rfl rfl 58 (.tmp 53) (.tmp 52) rfl 58 (i : Int) 0 (tgl x.f4 i) (true, b) (.agg #[.slice Ac b.f0.length cc, .int .i64 b.f1, .int .i64 b.f2, .slice A3' b.f3.length c3']) [.slice Ac b.f0.length cc, .int .i64 b.f1, .int .i64 b.f2, .slice A3' b.f3.length c3'] ds (fun q => W0.heap.size ≤ q) (fun q => bb ≤ q) rfl (by simp [show (tag k58 w).sz = 4 from rfl]) rfl rfl (by kernel_rfl) (by simp [Value.oneCell']) hRs.out q0 q1 hdl.out hcc.out (show 0 + 4 ≤ 4 from by decide) (by rw [List.take_zero, List.nil_append, List.drop_of_length_le (by rw [hdl.out]; exact Nat.le_refl _), List.append_nil]; exact hMb.out) (fun q hq => ⟨by have := hW0b.out; omega, by have := hgb.out; omega⟩) hLs.out ?_); intro w9 hR9 hL9 hg9; rw [Int.toNat_natCast, hset.out] at hR9; replace hR9 := Aside0.mk hR9; replace hL9 := Aside0.mk hL9; clear hg9))
          go_roundw
          case rel => exact ⟨i + 1, by omega, by go_num, hR9, ⟨(hL9.out.block _ (by have := hfb.out; omega)).trans F0.out⟩, ⟨(hL9.out.block _ hfb.out).trans Z0.out⟩, ⟨L1.out.trans (below_less hL9.out (by have := hfb.out; omega))⟩, ⟨Nat.le_trans hs1.out hL9.out.size⟩⟩
          case measure => simp [intOf]; omega
    · obtain rfl : i = x.f4.length := by omega
      replace hR := Aside0.mk (tag_all hR.out)
      have f0 := (blk_cell F0.out 0).trans (show _ = some (.string x.f0) from rfl)
      have f1 := (blk_cell F0.out 1).trans (show _ = some (.int .i64 x.f1) from rfl)
      have f2 := (blk_cell F0.out 2).trans (show _ = some (.int .i64 x.f2) from rfl)
      have f3 := (blk_cell F0.out 3).trans (show _ = some (.int .i64 x.f3) from rfl)
      have r0 := (blk_cell Z0.out 0).trans (show _ = some (.string ⟨#[]⟩) from rfl)
      have r1 := (blk_cell Z0.out 1).trans (show _ = some (.int .i64 0) from rfl)
      have r2 := (blk_cell Z0.out 2).trans (show _ = some (.int .i64 0) from rfl)
      have r3 := (blk_cell Z0.out 3).trans (show _ = some (.int .i64 0) from rfl)
      have r4 := (blk_cell Z0.out 4).trans (show _ = some (.slice none 0 0) from rfl)
      have t0 := blk_frozen Z0.out 0
      have t1 := blk_frozen Z0.out 1
      have t2 := blk_frozen Z0.out 2
      have t3 := blk_frozen Z0.out 3
      have t4 := blk_frozen Z0.out 4
      go_wp2_with fail
      refine bodyPost_ret (results_cell_row rfl _ _ (w.heap.size + 1) 33 #[.string x.f0, .int .i64 x.f1, .int .i64 x.f2, .int .i64 x.f3, .slice Av x.f4.length cv] (0, 0) _ rfl (by refine blk_put (cs := #[.string x.f0, .int .i64 x.f1, .int .i64 x.f2, .int .i64 x.f3, .slice none 0 0]) ?_ 4 _ rfl; refine blk_put (cs := #[.string x.f0, .int .i64 x.f1, .int .i64 x.f2, .int .i64 0, .slice none 0 0]) ?_ 3 _ rfl; refine blk_put (cs := #[.string x.f0, .int .i64 x.f1, .int .i64 0, .int .i64 0, .slice none 0 0]) ?_ 2 _ rfl; refine blk_put (cs := #[.string x.f0, .int .i64 0, .int .i64 0, .int .i64 0, .slice none 0 0]) ?_ 1 _ rfl; refine blk_put (cs := #[.string ⟨#[]⟩, .int .i64 0, .int .i64 0, .int .i64 0, .slice none 0 0]) ?_ 0 _ rfl; exact Z0.out) Try.underlying33 rfl (by kernel_rfl)) rfl ?_
      have hfar : ∀ k, W0.heap.size ≤ k → k ≠ w.heap.size + 1 := fun k hk => by have := hfb.out; omega
      exact ⟨_, rfl, Kd.R_lower (Kd.R_mono (Kd.R_far (Kd.R_far (Kd.R_far (Kd.R_far (Kd.R_far hR.out hfar _) hfar _) hfar _) hfar _) hfar _) (fun _ _ => trivial)) (below_size L0.out), below_set (below_set (below_set (below_set (below_set L1.out (Nat.le_succ _)) (Nat.le_succ _)) (Nat.le_succ _)) (Nat.le_succ _)) (Nat.le_succ _)⟩
end Go.Proofs.Ytobikiffjanagaa.Cpy
end
section
namespace Go.Proofs.Ytobikiffjanagaa.Cpy
open Go.RowKit Go.Proofs.YtobikiffjanagaaW.PrintWords Go.Proofs.YtobikiffjanagaaW.PrintLast Go.Proofs.YtobikiffjanagaaW.PrintMore Go.Proofs.Ytobikiffjanagaa.PIrCopies
set_option linter.unusedVariables false
set_option linter.unusedSimpArgs false
def lsE {α : Type} (p : α → α → Bool) : List α → List α → Bool
  | [], [] => true
  | x :: xs, y :: ys => p x y && lsE p xs ys
  | _, _ => false
def insE (x y : S44) : Bool := x.f0 == y.f0 && (x.f1 == y.f1 && (x.f3 == y.f3 && (x.f4 == y.f4 && (x.f5 == y.f5 && (x.f2 == y.f2 && x.f6 == y.f6)))))
def blkE (x y : S58) : Bool := x.f1 == y.f1 && (x.f2 == y.f2 && (x.f3 == y.f3 && lsE insE x.f0 y.f0))
def funE (x y : S33) : Bool := x.f0.toList == y.f0.toList && (x.f1 == y.f1 && (x.f2 == y.f2 && (x.f3 == y.f3 && lsE blkE x.f4 y.f4)))
theorem lsE_refl {α : Type} {p : α → α → Bool} (h : ∀ x, p x x = true) : ∀ xs, lsE p xs xs = true
  | [] => rfl
  | x :: xs => by simp [lsE, h, lsE_refl h xs]
theorem insE_refl (x : S44) : insE x x = true := by simp [insE]
theorem blkE_refl (x : S58) : blkE x x = true := by simp [blkE, lsE_refl insE_refl]
theorem funE_refl (x : S33) : funE x x = true := by simp [funE, lsE_refl blkE_refl]
theorem lsE_len {α : Type} {p : α → α → Bool} : ∀ {xs ys : List α}, lsE p xs ys = true → xs.length = ys.length
  | [], [], _ => rfl
  | x :: xs, y :: ys, h => by
    simp only [lsE, Bool.and_eq_true] at h
    simp [lsE_len h.2]
  | [], _ :: _, h => by cases h
  | _ :: _, [], h => by cases h
theorem lsE_no {α : Type} {p : α → α → Bool} {xs ys : List α} (h : xs.length ≠ ys.length) : lsE p xs ys = false := by
  cases e : lsE p xs ys with
  | false => rfl
  | true => exact absurd (lsE_len e) h
theorem lsE_drop {α : Type} {p : α → α → Bool} {xs ys : List α} (z : α) (i : Nat) (h : i < xs.length) (h2 : i < ys.length) : lsE p (xs.drop i) (ys.drop i) = (p (xs.getD i z) (ys.getD i z) && lsE p (xs.drop (i + 1)) (ys.drop (i + 1))) := by
  have h1 : xs.drop i = xs.getD i z :: xs.drop (i + 1) := by rw [List.drop_eq_getElem_cons h, List.getD_eq_getElem?_getD, List.getElem?_eq_getElem h]; rfl
  have h3 : ys.drop i = ys.getD i z :: ys.drop (i + 1) := by rw [List.drop_eq_getElem_cons h2, List.getD_eq_getElem?_getD, List.getElem?_eq_getElem h2]; rfl
  rw [h1, h3]; rfl
theorem ints_l0 (l r : List Int) (hl : l.length = r.length) (hm : l.length ≤ 1000000000000000) : ∀ (d i k : Nat), i + d = l.length → d + 1 ≤ k → crucibleref14_SameInts.l0 k l r (i : Int) = some (l.drop i == r.drop i) := by
  intro d
  induction d with
  | zero =>
    intro i k h hk
    obtain rfl : i = l.length := by omega
    obtain ⟨k, rfl⟩ : ∃ k', k = k' + 1 := ⟨k - 1, by omega⟩
    simp only [crucibleref14_SameInts.l0]
    rw [if_neg (by omega), List.drop_length, hl, List.drop_length]; rfl
  | succ d ih =>
    intro i k h hk
    obtain ⟨k, rfl⟩ : ∃ k', k = k' + 1 := ⟨k - 1, by omega⟩
    have hw : wrap64 ((i : Int) + 1) = ((i + 1 : Nat) : Int) := by unfold wrap64; omega
    have h1 : l.drop i = l.getD i 0 :: l.drop (i + 1) := by rw [List.drop_eq_getElem_cons (by omega), List.getD_eq_getElem?_getD, List.getElem?_eq_getElem (by omega)]; rfl
    have h3 : r.drop i = r.getD i 0 :: r.drop (i + 1) := by rw [List.drop_eq_getElem_cons (by omega), List.getD_eq_getElem?_getD, List.getElem?_eq_getElem (by omega)]; rfl
    simp only [crucibleref14_SameInts.l0, hw]
    have g1 : rd l (i : Int) = l.getD i 0 := by unfold rd; rw [Int.toNat_natCast]
    have g2 : rd r (i : Int) = r.getD i 0 := by unfold rd; rw [Int.toNat_natCast]
    rw [if_pos (by omega), if_pos (by omega), if_pos (by omega), h1, h3, g1, g2]
    by_cases e : l.getD i 0 = r.getD i 0
    · rw [if_pos e, ih (i + 1) k (by omega) (by omega), e]; simp
    · rw [if_neg e]
      have : (l.getD i 0 :: l.drop (i + 1) == r.getD i 0 :: r.drop (i + 1)) = false := beq_eq_false_iff_ne.2 fun h => e (List.cons.inj h).1
      rw [this]
theorem ints_f (l r : List Int) (hm : l.length ≤ 1000000000000000) (k : Nat) (hk : l.length + 1 ≤ k) : crucibleref14_SameInts.f k l r = some (l == r) := by
  unfold crucibleref14_SameInts.f
  by_cases h : l.length = r.length
  · rw [if_pos (by omega)]
    have := ints_l0 l r h hm l.length 0 k (by omega) (by omega)
    simpa using this
  · rw [if_neg (by omega)]
    have : (l == r) = false := beq_eq_false_iff_ne.2 fun e => h (by rw [e])
    rw [this]
theorem ins_f (x y : S44) (h : szI x) (k : Nat) (hk : x.f2.length + x.f6.length + 1 ≤ k) : crucibleref14_SameInstr.f k x.f0 x.f1 x.f2 x.f3 x.f4 x.f5 x.f6 y.f0 y.f1 y.f2 y.f3 y.f4 y.f5 y.f6 = some (insE x y) := by
  unfold crucibleref14_SameInstr.f insE
  unfold szI at h
  rw [ints_f x.f2 y.f2 (by omega) k (by omega), ints_f x.f6 y.f6 (by omega) k (by omega)]
  simp only [Option.bind_some]
  by_cases c0 : x.f0 = y.f0
  · by_cases c1 : x.f1 = y.f1
    · by_cases c3 : x.f3 = y.f3
      · by_cases c4 : x.f4 = y.f4
        · by_cases c5 : x.f5 = y.f5
          · rw [if_pos c0, if_pos c1, if_pos c3, if_pos c4, if_pos c5]
            cases e : (x.f2 == y.f2) <;> simp [c0, c1, c3, c4, c5]
          · simp [c0, c1, c3, c4, c5]
        · simp [c0, c1, c3, c4]
      · simp [c0, c1, c3]
    · simp [c0, c1]
  · simp [c0]
/-- Everything's length is at most M. -/
def Mx (M : Nat) (xs : List S58) : Prop := ∀ b ∈ xs, b.f0.length ≤ M ∧ b.f3.length ≤ M ∧ ∀ y ∈ b.f0, y.f2.length + y.f6.length ≤ M
def FF (T i M : Nat) : Nat := (T - i) * (M + 4) + M + 5
section
variable {n0 m0 : ByteArray} {n1 n2 n3 m1 m2 m3 : Int} {xs ys : List S58} {M : Nat}
theorem same_l1 (hz : ∀ b ∈ xs, szB b) (hM : Mx M xs) (i : Nat) (hi : i < xs.length) (hlen : xs.length ≤ 1000000000000000) (V : Bool) (c0 d0 : List S44) (c1 c2 d1 d2 : Int) (c3 d3 : List Int) (hc : c0.length = d0.length) (hcM : c0.length ≤ M) (hcy : ∀ y ∈ c0, y.f2.length + y.f6.length ≤ M) (hcz : ∀ y ∈ c0, szI y) (hcl : c0.length ≤ 1000000000000000)
    (hnext : ∀ k, FF xs.length (i + 1) M ≤ k → crucibleref14_Same.l0 k ((i + 1 : Nat) : Int) n0 n1 n2 n3 xs m0 m1 m2 m3 ys = some V) : ∀ (d j k : Nat), j + d = c0.length → d + 1 + FF xs.length (i + 1) M ≤ k →
    crucibleref14_Same.l1 k (i : Int) (j : Int) n0 n1 n2 n3 xs m0 m1 m2 m3 ys c0 c1 c2 c3 d0 d1 d2 d3 = some (lsE insE (c0.drop j) (d0.drop j) && V) := by
  intro d
  induction d with
  | zero =>
    intro j k h hk
    obtain rfl : j = c0.length := by omega
    obtain ⟨k, rfl⟩ : ∃ k', k = k' + 1 := ⟨k - 1, by omega⟩
    simp only [crucibleref14_Same.l1]
    rw [if_neg (by omega), show wrap64 ((i : Int) + 1) = ((i + 1 : Nat) : Int) by unfold wrap64; omega, hnext k (by omega), List.drop_length, hc, List.drop_length]
    simp [lsE]
  | succ d ih =>
    intro j k h hk
    obtain ⟨k, rfl⟩ : ∃ k', k = k' + 1 := ⟨k - 1, by omega⟩
    have hj : j < c0.length := by omega
    have hy := hcy _ (getD_mem c0 z44 j hj)
    have hFF : M + 5 ≤ FF xs.length (i + 1) M := by unfold FF; omega
    simp only [crucibleref14_Same.l1]
    rw [if_pos (by omega), if_pos (by omega), if_pos (by omega), show wrap64 ((j : Int) + 1) = ((j + 1 : Nat) : Int) by unfold wrap64; omega]
    have g1 : ∀ c : List S44, rd_T44 c (j : Int) = c.getD j z44 := fun c => by unfold rd_T44; rw [Int.toNat_natCast]
    rw [g1, g1, ins_f _ _ (hcz _ (getD_mem c0 z44 j hj)) k (by omega), lsE_drop z44 j hj (by omega)]
    simp only [Option.bind_some]
    cases e : insE (c0.getD j z44) (d0.getD j z44)
    · rw [if_neg (by decide)]; simp
    · rw [if_pos rfl, ih (j + 1) k (by omega) (by omega)]; simp
theorem same_l0 (hl : xs.length = ys.length) (hz : ∀ b ∈ xs, szB b) (hM : Mx M xs) (hlen : xs.length ≤ 1000000000000000) : ∀ (d i k : Nat), i + d = xs.length → FF xs.length i M ≤ k →
    crucibleref14_Same.l0 k (i : Int) n0 n1 n2 n3 xs m0 m1 m2 m3 ys = some (lsE blkE (xs.drop i) (ys.drop i)) := by
  intro d
  induction d with
  | zero =>
    intro i k h hk
    obtain rfl : i = xs.length := by omega
    obtain ⟨k, rfl⟩ : ∃ k', k = k' + 1 := ⟨k - 1, by unfold FF at hk; omega⟩
    simp only [crucibleref14_Same.l0]
    rw [if_neg (by omega), List.drop_length, hl, List.drop_length]; rfl
  | succ d ih =>
    intro i k h hk
    have hi : i < xs.length := by omega
    have hstep : FF xs.length i M = FF xs.length (i + 1) M + (M + 4) := by
      unfold FF
      obtain ⟨e, he⟩ : ∃ e, xs.length - i = e + 1 := ⟨xs.length - i - 1, by omega⟩
      rw [he, show xs.length - (i + 1) = e by omega, Nat.succ_mul]; omega
    obtain ⟨k, rfl⟩ : ∃ k', k = k' + 1 := ⟨k - 1, by omega⟩
    have hFF : M + 5 ≤ FF xs.length (i + 1) M := by unfold FF; omega
    have hnext := fun k hk => ih (i + 1) k (by omega) hk
    have hzb := hz _ (getD_mem xs z58 i hi)
    have hmb := hM _ (getD_mem xs z58 i hi)
    simp only [crucibleref14_Same.l0]
    rw [if_pos (by omega), if_pos (by omega), if_pos (by omega)]
    have g1 : ∀ c : List S58, rd_T58 c (i : Int) = c.getD i z58 := fun c => by unfold rd_T58; rw [Int.toNat_natCast]
    rw [g1, g1, lsE_drop z58 i hi (by omega)]
    generalize xs.getD i z58 = b at *
    generalize ys.getD i z58 = c at *
    unfold szB at hzb
    have hj2 : ∀ q, (q = true → lsE insE b.f0 c.f0 = false ∨ (b.f3 == c.f3) = false ∨ (b.f1 == c.f1) = false ∨ (b.f2 == c.f2) = false) → (q = false → b.f0.length = c.f0.length ∧ (b.f3 == c.f3) = true ∧ (b.f1 == c.f1) = true ∧ (b.f2 == c.f2) = true) →
        crucibleref14_Same.j2 k (i : Int) q n0 n1 n2 n3 xs m0 m1 m2 m3 ys b.f0 b.f1 b.f2 b.f3 c.f0 c.f1 c.f2 c.f3 = some (blkE b c && lsE blkE (xs.drop (i + 1)) (ys.drop (i + 1))) := fun q h1 h2 => by
      obtain ⟨k, rfl⟩ : ∃ k', k = k' + 1 := ⟨k - 1, by omega⟩
      simp only [crucibleref14_Same.j2]
      cases q
      · obtain ⟨e0, e3, e1, e2⟩ := h2 rfl
        rw [if_neg (by decide)]
        have := same_l1 (n0 := n0) (n1 := n1) (n2 := n2) (n3 := n3) (m0 := m0) (m1 := m1) (m2 := m2) (m3 := m3) (ys := ys) hz hM i hi hlen _ b.f0 c.f0 b.f1 b.f2 c.f1 c.f2 b.f3 c.f3 e0 hmb.1 hmb.2.2 hzb.2.2 (by omega) hnext b.f0.length 0 k (by omega) (by omega)
        have e : crucibleref14_Same.l1 k (i : Int) 0 n0 n1 n2 n3 xs m0 m1 m2 m3 ys b.f0 b.f1 b.f2 b.f3 c.f0 c.f1 c.f2 c.f3 = _ := this
        rw [e]
        simp [blkE, e1, e2, e3]
      · rw [if_pos rfl]
        have : blkE b c = false := by
          unfold blkE
          rcases h1 rfl with e | e | e | e <;> simp [e]
        rw [this]; rfl
    by_cases e1 : b.f1 = c.f1
    · rw [if_pos e1]
      by_cases e2 : b.f2 = c.f2
      · rw [if_pos e2, ints_f b.f3 c.f3 (by omega) k (by omega)]
        simp only [Option.bind_some]
        cases e3 : (b.f3 == c.f3)
        · rw [if_neg (by decide)]
          exact hj2 true (fun _ => .inr (.inl e3)) (fun h => by cases h)
        · rw [if_pos rfl]
          refine hj2 _ (fun h => .inl (lsE_no ?_)) (fun h => ⟨?_, e3, by simpa using e1, by simpa using e2⟩)
          · simp only [bne_iff_ne, ne_eq] at h; omega
          · simp only [bne_eq_false_iff_eq] at h; omega
      · rw [if_neg e2]
        exact hj2 true (fun _ => .inr (.inr (.inr (beq_eq_false_iff_ne.2 e2)))) (fun h => by cases h)
    · rw [if_neg e1]
      exact hj2 true (fun _ => .inr (.inr (.inl (beq_eq_false_iff_ne.2 e1)))) (fun h => by cases h)
end
theorem le_sum {a : Nat} : ∀ {l : List Nat}, a ∈ l → a ≤ l.sum
  | x :: l, h => by
    rw [List.sum_cons]
    rcases List.mem_cons.1 h with rfl | h
    · omega
    · have := le_sum h; omega
theorem mx_some (xs : List S58) : ∃ M, Mx M xs := by
  refine ⟨(xs.map fun b => b.f0.length + b.f3.length + (b.f0.map fun y => y.f2.length + y.f6.length).sum).sum, fun b hb => ?_⟩
  have h1 : b.f0.length + b.f3.length + (b.f0.map fun y => y.f2.length + y.f6.length).sum ≤ (xs.map fun b => b.f0.length + b.f3.length + (b.f0.map fun y => y.f2.length + y.f6.length).sum).sum := le_sum (List.mem_map.2 ⟨b, hb, rfl⟩)
  refine ⟨by omega, by omega, fun y hy => ?_⟩
  have h2 : y.f2.length + y.f6.length ≤ (b.f0.map fun y => y.f2.length + y.f6.length).sum := le_sum (List.mem_map.2 ⟨y, hy, rfl⟩)
  omega
/-- The reference's Same. -/
theorem same_f (x y : S33) (hz : szF x) : ∃ k, crucibleref14_Same.f k x.f0 x.f1 x.f2 x.f3 x.f4 y.f0 y.f1 y.f2 y.f3 y.f4 = some (funE x y) := by
  obtain ⟨M, hM⟩ := mx_some x.f4
  refine ⟨FF x.f4.length 0 M + 1, ?_⟩
  unfold szF at hz
  have hj : ∀ q, (q = true → funE x y = false) → (q = false → x.f4.length = y.f4.length ∧ funE x y = lsE blkE x.f4 y.f4) → crucibleref14_Same.j0 (FF x.f4.length 0 M + 1) q x.f0 x.f1 x.f2 x.f3 x.f4 y.f0 y.f1 y.f2 y.f3 y.f4 = some (funE x y) := fun q h1 h2 => by
    simp only [crucibleref14_Same.j0]
    cases q
    · rw [if_neg (by decide)]
      have := same_l0 (n0 := x.f0) (n1 := x.f1) (n2 := x.f2) (n3 := x.f3) (m0 := y.f0) (m1 := y.f1) (m2 := y.f2) (m3 := y.f3) (h2 rfl).1 hz.2 hM (by omega) x.f4.length 0 (FF x.f4.length 0 M) (by omega) (Nat.le_refl _)
      have e : crucibleref14_Same.l0 (FF x.f4.length 0 M) 0 x.f0 x.f1 x.f2 x.f3 x.f4 y.f0 y.f1 y.f2 y.f3 y.f4 = _ := this
      rw [e, (h2 rfl).2]; rfl
    · rw [if_pos rfl, h1 rfl]
  unfold crucibleref14_Same.f
  by_cases c0 : x.f0.toList = y.f0.toList
  · rw [if_pos c0]
    by_cases c1 : x.f1 = y.f1
    · rw [if_pos c1]
      by_cases c2 : x.f2 = y.f2
      · rw [if_pos c2]
        by_cases c3 : x.f3 = y.f3
        · rw [if_pos c3]
          refine hj _ (fun h => ?_) (fun h => ⟨by simp only [bne_eq_false_iff_eq] at h; omega, by simp [funE, c0, c1, c2, c3]⟩)
          simp only [bne_iff_ne, ne_eq] at h
          simp [funE, lsE_no (p := blkE) (xs := x.f4) (ys := y.f4) (by omega)]
        · rw [if_neg c3]; exact hj true (fun _ => by simp [funE, c3]) (fun h => by cases h)
      · rw [if_neg c2]; exact hj true (fun _ => by simp [funE, c2]) (fun h => by cases h)
    · rw [if_neg c1]; exact hj true (fun _ => by simp [funE, c1]) (fun h => by cases h)
  · rw [if_neg c0]; exact hj true (fun _ => by simp [funE, c0]) (fun h => by cases h)
end Go.Proofs.Ytobikiffjanagaa.Cpy
end
section
namespace Go.Proofs.Ytobikiffjanagaa.GF
open Go.RowKit Go.Proofs.YtobikiffjanagaaW.PrintWords Go.Proofs.YtobikiffjanagaaW.PrintLast Go.Proofs.YtobikiffjanagaaW.PrintMore
attribute [local go_sem] max2_int min2_int max_two min_two max_three min_three max_four min_four   -- for this text's walks alone
set_option linter.unusedVariables false
set_option linter.unusedSimpArgs false
def errW : Option Int → Value
  | none => .nilIface
  | some c => .iface 0 (.int .i64 c)
theorem errW_none : errW none = .nilIface := rfl
theorem errW_some (c : Int) : errW (some c) = .iface 0 (.int .i64 c) := rfl
-- the values' own types
structure S44 where
  f0 : Int
  f1 : Int
  f2 : (List Int)
  f3 : Int
  f4 : Int
  f5 : Int
  f6 : (List Int)
def z44 : S44 := ⟨(0 : Int), (0 : Int), ([] : List Int), (0 : Int), (0 : Int), (0 : Int), ([] : List Int)⟩
def k44 : Kd S44 := Kd.iso (Kd.pair (Kd.int .i64) (Kd.pair (Kd.int .i64) (Kd.pair (Kd.slice 3 (Kd.int .i64)) (Kd.pair (Kd.int .i32) (Kd.pair (Kd.int .i64) (Kd.pair (Kd.int .i64) (Kd.slice 3 (Kd.int .i64)))))))) (fun x : S44 => (x.f0, x.f1, x.f2, x.f3, x.f4, x.f5, x.f6))
theorem k44_open {w : World} {x : S44} {cs : List Value} (h : k44.K w x cs) : ∃ A2 c2 A6 c6, cs = [.int .i64 x.f0, .int .i64 x.f1, .slice A2 x.f2.length c2, .int .i32 x.f3, .int .i64 x.f4, .int .i64 x.f5, .slice A6 x.f6.length c6] ∧ x.f2.length ≤ c2 ∧ (Kd.int .i64).C w A2 x.f2.length x.f2 ∧ x.f6.length ≤ c6 ∧ (Kd.int .i64).C w A6 x.f6.length x.f6 := by
  obtain ⟨_, _, rfl, rfl, ⟨_, _, rfl, rfl, ⟨_, _, rfl, ⟨A2, c2, rfl, l2, g2⟩, ⟨_, _, rfl, rfl, ⟨_, _, rfl, rfl, ⟨_, _, rfl, rfl, ⟨A6, c6, rfl, l6, g6⟩⟩⟩⟩⟩⟩⟩ := h
  exact ⟨A2, c2, A6, c6, rfl, l2, g2, l6, g6⟩
theorem k44_openM {w : World} {base : Nat} {ok : Nat → Prop} {x : S44} {cs : List Value} (h : k44.M w base ok x cs) : ∃ v2 v6, cs = [.int .i64 x.f0, .int .i64 x.f1, v2, .int .i32 x.f3, .int .i64 x.f4, .int .i64 x.f5, v6] ∧ (Kd.int .i64).R 3 w base ok v2 x.f2 ∧ (Kd.int .i64).R 3 w base ok v6 x.f6 := by
  obtain ⟨_, _, rfl, rfl, ⟨_, _, rfl, rfl, ⟨_, _, rfl, ⟨v2, rfl, g2⟩, ⟨_, _, rfl, rfl, ⟨_, _, rfl, rfl, ⟨_, _, rfl, rfl, ⟨v6, rfl, g6⟩⟩⟩⟩⟩⟩⟩ := h
  exact ⟨v2, v6, rfl, g2, g6⟩
def rd_T44 (xs : List S44) (i : Int) : S44 := xs.getD i.toNat z44
theorem at_T44 {w : World} {A : Option Addr} {n : Nat} {xs : List S44} (h : Kd.C k44 w A n xs) (i : Int) (h0 : 0 ≤ i) (h1 : i < n) : ∃ ad A2 c2 A6 c6, A = some ad ∧ w.cell? (ad.add (i.toNat * 7)) = some (.int .i64 (rd_T44 xs i).f0) ∧ w.cell? ⟨(ad.add (i.toNat * 7)).block, (ad.add (i.toNat * 7)).off + 1, none⟩ = some (.int .i64 (rd_T44 xs i).f1) ∧ w.cell? ⟨(ad.add (i.toNat * 7)).block, (ad.add (i.toNat * 7)).off + 2, none⟩ = some (.slice A2 (rd_T44 xs i).f2.length c2) ∧ w.cell? ⟨(ad.add (i.toNat * 7)).block, (ad.add (i.toNat * 7)).off + 3, none⟩ = some (.int .i32 (rd_T44 xs i).f3) ∧ w.cell? ⟨(ad.add (i.toNat * 7)).block, (ad.add (i.toNat * 7)).off + 4, none⟩ = some (.int .i64 (rd_T44 xs i).f4) ∧ w.cell? ⟨(ad.add (i.toNat * 7)).block, (ad.add (i.toNat * 7)).off + 5, none⟩ = some (.int .i64 (rd_T44 xs i).f5) ∧ w.cell? ⟨(ad.add (i.toNat * 7)).block, (ad.add (i.toNat * 7)).off + 6, none⟩ = some (.slice A6 (rd_T44 xs i).f6.length c6) ∧ (rd_T44 xs i).f2.length ≤ c2 ∧ (Kd.int .i64).C w A2 (rd_T44 xs i).f2.length (rd_T44 xs i).f2 ∧ (rd_T44 xs i).f6.length ≤ c6 ∧ (Kd.int .i64).C w A6 (rd_T44 xs i).f6.length (rd_T44 xs i).f6 := by
  obtain ⟨ad, c, e, _, hK, hc0⟩ := Kd.C_get h z44 i h0 h1
  have hc : ∀ j u, c[j]? = some u → w.cell? (ad.add (i.toNat * 7 + j)) = some u := hc0
  obtain ⟨A2, c2, A6, c6, rfl, l2, g2, l6, g6⟩ := k44_open hK
  exact ⟨ad, A2, c2, A6, c6, e, hc 0 _ rfl, by rw [← add_field _ _ 1 (by omega)]; exact hc 1 _ rfl, by rw [← add_field _ _ 2 (by omega)]; exact hc 2 _ rfl, by rw [← add_field _ _ 3 (by omega)]; exact hc 3 _ rfl, by rw [← add_field _ _ 4 (by omega)]; exact hc 4 _ rfl, by rw [← add_field _ _ 5 (by omega)]; exact hc 5 _ rfl, by rw [← add_field _ _ 6 (by omega)]; exact hc 6 _ rfl, l2, g2, l6, g6⟩
structure S58 where
  f0 : (List S44)
  f1 : Int
  f2 : Int
  f3 : (List Int)
def z58 : S58 := ⟨([] : List S44), (0 : Int), (0 : Int), ([] : List Int)⟩
def k58 : Kd S58 := Kd.iso (Kd.pair (Kd.slice 44 k44) (Kd.pair (Kd.int .i64) (Kd.pair (Kd.int .i64) (Kd.slice 3 (Kd.int .i64))))) (fun x : S58 => (x.f0, x.f1, x.f2, x.f3))
theorem k58_open {w : World} {x : S58} {cs : List Value} (h : k58.K w x cs) : ∃ A0 c0 A3 c3, cs = [.slice A0 x.f0.length c0, .int .i64 x.f1, .int .i64 x.f2, .slice A3 x.f3.length c3] ∧ x.f0.length ≤ c0 ∧ k44.C w A0 x.f0.length x.f0 ∧ x.f3.length ≤ c3 ∧ (Kd.int .i64).C w A3 x.f3.length x.f3 := by
  obtain ⟨_, _, rfl, ⟨A0, c0, rfl, l0, g0⟩, ⟨_, _, rfl, rfl, ⟨_, _, rfl, rfl, ⟨A3, c3, rfl, l3, g3⟩⟩⟩⟩ := h
  exact ⟨A0, c0, A3, c3, rfl, l0, g0, l3, g3⟩
theorem k58_openM {w : World} {base : Nat} {ok : Nat → Prop} {x : S58} {cs : List Value} (h : k58.M w base ok x cs) : ∃ v0 v3, cs = [v0, .int .i64 x.f1, .int .i64 x.f2, v3] ∧ k44.R 44 w base ok v0 x.f0 ∧ (Kd.int .i64).R 3 w base ok v3 x.f3 := by
  obtain ⟨_, _, rfl, ⟨v0, rfl, g0⟩, ⟨_, _, rfl, rfl, ⟨_, _, rfl, rfl, ⟨v3, rfl, g3⟩⟩⟩⟩ := h
  exact ⟨v0, v3, rfl, g0, g3⟩
theorem k58_mk (w : World) (x : S58) {A0 : Option Addr} {c0 : Nat} (l0 : x.f0.length ≤ c0) (g0 : k44.C w A0 x.f0.length x.f0) {A3 : Option Addr} {c3 : Nat} (l3 : x.f3.length ≤ c3) (g3 : (Kd.int .i64).C w A3 x.f3.length x.f3) : k58.K w x [.slice A0 x.f0.length c0, .int .i64 x.f1, .int .i64 x.f2, .slice A3 x.f3.length c3] := ⟨[.slice A0 x.f0.length c0], [.int .i64 x.f1, .int .i64 x.f2, .slice A3 x.f3.length c3], rfl, ⟨A0, c0, rfl, l0, g0⟩, ⟨[.int .i64 x.f1], [.int .i64 x.f2, .slice A3 x.f3.length c3], rfl, rfl, ⟨[.int .i64 x.f2], [.slice A3 x.f3.length c3], rfl, rfl, ⟨A3, c3, rfl, l3, g3⟩⟩⟩⟩
def rd_T58 (xs : List S58) (i : Int) : S58 := xs.getD i.toNat z58
theorem at_T58 {w : World} {A : Option Addr} {n : Nat} {xs : List S58} (h : Kd.C k58 w A n xs) (i : Int) (h0 : 0 ≤ i) (h1 : i < n) : ∃ ad A0 c0 A3 c3, A = some ad ∧ w.cell? (ad.add (i.toNat * 4)) = some (.slice A0 (rd_T58 xs i).f0.length c0) ∧ w.cell? ⟨(ad.add (i.toNat * 4)).block, (ad.add (i.toNat * 4)).off + 1, none⟩ = some (.int .i64 (rd_T58 xs i).f1) ∧ w.cell? ⟨(ad.add (i.toNat * 4)).block, (ad.add (i.toNat * 4)).off + 2, none⟩ = some (.int .i64 (rd_T58 xs i).f2) ∧ w.cell? ⟨(ad.add (i.toNat * 4)).block, (ad.add (i.toNat * 4)).off + 3, none⟩ = some (.slice A3 (rd_T58 xs i).f3.length c3) ∧ (rd_T58 xs i).f0.length ≤ c0 ∧ k44.C w A0 (rd_T58 xs i).f0.length (rd_T58 xs i).f0 ∧ (rd_T58 xs i).f3.length ≤ c3 ∧ (Kd.int .i64).C w A3 (rd_T58 xs i).f3.length (rd_T58 xs i).f3 := by
  obtain ⟨ad, c, e, _, hK, hc0⟩ := Kd.C_get h z58 i h0 h1
  have hc : ∀ j u, c[j]? = some u → w.cell? (ad.add (i.toNat * 4 + j)) = some u := hc0
  obtain ⟨A0, c0, A3, c3, rfl, l0, g0, l3, g3⟩ := k58_open hK
  exact ⟨ad, A0, c0, A3, c3, e, hc 0 _ rfl, by rw [← add_field _ _ 1 (by omega)]; exact hc 1 _ rfl, by rw [← add_field _ _ 2 (by omega)]; exact hc 2 _ rfl, by rw [← add_field _ _ 3 (by omega)]; exact hc 3 _ rfl, l0, g0, l3, g3⟩
structure S33 where
  f0 : ByteArray
  f1 : Int
  f2 : Int
  f3 : Int
  f4 : (List S58)
def z33 : S33 := ⟨(⟨#[]⟩ : ByteArray), (0 : Int), (0 : Int), (0 : Int), ([] : List S58)⟩
def k33 : Kd S33 := Kd.iso (Kd.pair Kd.string (Kd.pair (Kd.int .i64) (Kd.pair (Kd.int .i64) (Kd.pair (Kd.int .i64) (Kd.slice 58 k58))))) (fun x : S33 => (x.f0, x.f1, x.f2, x.f3, x.f4))
theorem k33_open {w : World} {x : S33} {cs : List Value} (h : k33.K w x cs) : ∃ A4 c4, cs = [.string x.f0, .int .i64 x.f1, .int .i64 x.f2, .int .i64 x.f3, .slice A4 x.f4.length c4] ∧ x.f4.length ≤ c4 ∧ k58.C w A4 x.f4.length x.f4 := by
  obtain ⟨_, _, rfl, rfl, ⟨_, _, rfl, rfl, ⟨_, _, rfl, rfl, ⟨_, _, rfl, rfl, ⟨A4, c4, rfl, l4, g4⟩⟩⟩⟩⟩ := h
  exact ⟨A4, c4, rfl, l4, g4⟩
theorem k33_mk (w : World) (x : S33) {A4 : Option Addr} {c4 : Nat} (l4 : x.f4.length ≤ c4) (g4 : k58.C w A4 x.f4.length x.f4) : k33.K w x [.string x.f0, .int .i64 x.f1, .int .i64 x.f2, .int .i64 x.f3, .slice A4 x.f4.length c4] := ⟨[.string x.f0], [.int .i64 x.f1, .int .i64 x.f2, .int .i64 x.f3, .slice A4 x.f4.length c4], rfl, rfl, ⟨[.int .i64 x.f1], [.int .i64 x.f2, .int .i64 x.f3, .slice A4 x.f4.length c4], rfl, rfl, ⟨[.int .i64 x.f2], [.int .i64 x.f3, .slice A4 x.f4.length c4], rfl, rfl, ⟨[.int .i64 x.f3], [.slice A4 x.f4.length c4], rfl, rfl, ⟨A4, c4, rfl, l4, g4⟩⟩⟩⟩⟩
def rd_T33 (xs : List S33) (i : Int) : S33 := xs.getD i.toNat z33
theorem at_T33 {w : World} {A : Option Addr} {n : Nat} {xs : List S33} (h : Kd.C k33 w A n xs) (i : Int) (h0 : 0 ≤ i) (h1 : i < n) : ∃ ad A4 c4, A = some ad ∧ w.cell? (ad.add (i.toNat * 5)) = some (.string (rd_T33 xs i).f0) ∧ w.cell? ⟨(ad.add (i.toNat * 5)).block, (ad.add (i.toNat * 5)).off + 1, none⟩ = some (.int .i64 (rd_T33 xs i).f1) ∧ w.cell? ⟨(ad.add (i.toNat * 5)).block, (ad.add (i.toNat * 5)).off + 2, none⟩ = some (.int .i64 (rd_T33 xs i).f2) ∧ w.cell? ⟨(ad.add (i.toNat * 5)).block, (ad.add (i.toNat * 5)).off + 3, none⟩ = some (.int .i64 (rd_T33 xs i).f3) ∧ w.cell? ⟨(ad.add (i.toNat * 5)).block, (ad.add (i.toNat * 5)).off + 4, none⟩ = some (.slice A4 (rd_T33 xs i).f4.length c4) ∧ (rd_T33 xs i).f4.length ≤ c4 ∧ k58.C w A4 (rd_T33 xs i).f4.length (rd_T33 xs i).f4 := by
  obtain ⟨ad, c, e, _, hK, hc0⟩ := Kd.C_get h z33 i h0 h1
  have hc : ∀ j u, c[j]? = some u → w.cell? (ad.add (i.toNat * 5 + j)) = some u := hc0
  obtain ⟨A4, c4, rfl, l4, g4⟩ := k33_open hK
  exact ⟨ad, A4, c4, e, hc 0 _ rfl, by rw [← add_field _ _ 1 (by omega)]; exact hc 1 _ rfl, by rw [← add_field _ _ 2 (by omega)]; exact hc 2 _ rfl, by rw [← add_field _ _ 3 (by omega)]; exact hc 3 _ rfl, by rw [← add_field _ _ 4 (by omega)]; exact hc 4 _ rfl, l4, g4⟩
structure S51 where
  f0 : Int
  f1 : ByteArray
def z51 : S51 := ⟨(0 : Int), (⟨#[]⟩ : ByteArray)⟩
def k51 : Kd S51 := Kd.iso (Kd.pair (Kd.int .i64) Kd.string) (fun x : S51 => (x.f0, x.f1))
theorem k51_open {w : World} {x : S51} {cs : List Value} (h : k51.K w x cs) : cs = [.int .i64 x.f0, .string x.f1] := by
  obtain ⟨_, _, rfl, rfl, rfl⟩ := h
  exact rfl
def rd_T51 (xs : List S51) (i : Int) : S51 := xs.getD i.toNat z51
theorem at_T51 {w : World} {A : Option Addr} {n : Nat} {xs : List S51} (h : Kd.C k51 w A n xs) (i : Int) (h0 : 0 ≤ i) (h1 : i < n) : ∃ ad , A = some ad ∧ w.cell? (ad.add (i.toNat * 2)) = some (.int .i64 (rd_T51 xs i).f0) ∧ w.cell? ⟨(ad.add (i.toNat * 2)).block, (ad.add (i.toNat * 2)).off + 1, none⟩ = some (.string (rd_T51 xs i).f1) := by
  obtain ⟨ad, c, e, _, hK, hc0⟩ := Kd.C_get h z51 i h0 h1
  have hc : ∀ j u, c[j]? = some u → w.cell? (ad.add (i.toNat * 2 + j)) = some u := hc0
  obtain rfl := k51_open hK
  exact ⟨ad, e, hc 0 _ rfl, by rw [← add_field _ _ 1 (by omega)]; exact hc 1 _ rfl⟩
end Go.Proofs.Ytobikiffjanagaa.GF
end
section
namespace Go.Proofs.Ytobikiffjanagaa.IrA
open Go.RowKit Go.Proofs.YtobikiffjanagaaW.PrintWords Go.Proofs.YtobikiffjanagaaW.PrintLast Go.Proofs.Ytobikiffjanagaa.GF
set_option linter.unusedVariables false
set_option linter.unusedSimpArgs false
theorem bdn {B : Nat} {w w' : World} (h : Below B w w') (n : Nat) : Below B w (w'.drewN n) := h.trans ⟨rfl, rfl, rfl, Nat.le_refl _, fun _ _ => rfl⟩
def wi (a lo hi : Int) : Bool := decide (lo ≤ a) && decide (a ≤ hi)
def Ret (v : Value) (w : World) (e : Ending) (w' : World) : Prop := e = .returned v ∧ w = w'
def RetB (v : Value) (w : World) (e : Ending) (w' : World) : Prop := e = .returned v ∧ Below w.heap.size w w'
set_option maxHeartbeats 4000000 in
set_option maxRecDepth 100000 in
theorem within (a lo hi : Int) (w : World) : Calls Try.prog 25 #[.int .i64 a, .int .i64 lo, .int .i64 hi] w (Ret (.bool (wi a lo hi)) w) := by
  by_cases h : lo ≤ a
  · have e : wi a lo hi = decide (a ≤ hi) := by simp [wi, h]
    rw [e]
    go_enter Try.func25, Try.ntmps25
    go_wp2
    go_ret
    exact ⟨rfl, rfl⟩
  · have e : wi a lo hi = false := by simp [wi, h]
    rw [e]
    go_enter Try.func25, Try.ntmps25
    go_wp2
    go_ret
    exact ⟨rfl, rfl⟩
/-- The checker's cells. -/
structure Ckr where
  A0 : Option Addr
  n0 : Nat
  c0 : Nat
  glob : Int
  v2 : Value
  main : Int
  name : ByteArray
  params : Int
  regs : Int
  slots : Int
  A8 : Option Addr
  n8 : Nat
  c8 : Nat
  v9 : Value
def Ckr.obj (c : Ckr) : Obj := .cells #[.slice c.A0 c.n0 c.c0, .int .i64 c.glob, c.v2, .int .i64 c.main, .string c.name, .int .i64 c.params, .int .i64 c.regs, .int .i64 c.slots, .slice c.A8 c.n8 c.c8, c.v9] 55 (0, 0)
abbrev P (g : Nat) : Value := .pointer (some ⟨g, 0, none⟩)
set_option maxHeartbeats 4000000 in
set_option maxRecDepth 100000 in
theorem reg {w : World} {g : Nat} {c : Ckr} (hg : Aside0 (w.heap[g]? = some c.obj)) (r : Int) (h0 : 0 ≤ c.regs) (h1 : c.regs ≤ 65536) :
    Calls Try.prog 43 #[P g, .int .i64 r] w (Ret (.bool (wi r 0 (c.regs - 1))) w) := by
  have hc : w.cell? ⟨g, 6, none⟩ = some (.int .i64 c.regs) := (blk_cell hg.out 6).trans rfl
  have hw : IntKind.i64.wrap (c.regs - 1) = c.regs - 1 := IntWalk.i64_in _ (by omega)
  clear hg
  go_enter Try.func43, Try.ntmps43
  go_wp2_with ((with_reducible refine (within _ _ _ _).mono ?_); rintro e w' ⟨rfl, rfl⟩)
  go_ret
  exact ⟨rfl, rfl⟩
/-- An instruction's values. -/
abbrev iv (x : S44) (A2 A6 : Option Addr) (c2 c6 : Nat) : Value := .agg #[.int .i64 x.f0, .int .i64 x.f1, .slice A2 x.f2.length c2, .int .i32 x.f3, .int .i64 x.f4, .int .i64 x.f5, .slice A6 x.f6.length c6]
abbrev ib (x : S44) (A2 A6 : Option Addr) (c2 c6 : Nat) : Obj := .cells #[.int .i64 x.f0, .int .i64 x.f1, .slice A2 x.f2.length c2, .int .i32 x.f3, .int .i64 x.f4, .int .i64 x.f5, .slice A6 x.f6.length c6] 44 (0, 0)
def dstB (regs : Int) (x : S44) (has : Bool) : Bool := if has = true then wi x.f1 0 (regs - 1) || (x.f0 == 9 && x.f1 == -1) else x.f1 == -1
set_option maxHeartbeats 4000000 in
set_option maxRecDepth 100000 in
theorem dst {w : World} {g : Nat} {c : Ckr} (hg : Aside0 (w.heap[g]? = some c.obj)) (x : S44) (A2 A6 : Option Addr) (c2 c6 : Nat) (has : Bool) (h0 : 0 ≤ c.regs) (h1 : c.regs ≤ 65536) :
    Calls Try.prog 45 #[P g, iv x A2 A6 c2 c6, .bool has] w (RetB (.bool (dstB c.regs x has)) w) := by
  have hB : Aside0 (Below w.heap.size w (w.alloc (ib x A2 A6 c2 c6))) := ⟨below_alloc (Below.refl _ _) _⟩
  have hg2 : Aside0 ((w.alloc (ib x A2 A6 c2 c6)).heap[g]? = some c.obj) := ⟨blk_alloc hg.out _⟩
  have hr := Aside0.mk (reg hg2 x.f1 h0 h1)
  cases has
  · have e : dstB c.regs x false = (x.f1 == -1) := rfl
    rw [e]
    go_enter Try.func45, Try.ntmps45
    go_wp2
    go_ret
    exact ⟨rfl, hB.out⟩
  · cases hq : wi x.f1 0 (c.regs - 1)
    · rw [hq] at hr
      have hu : Aside0 (dstB c.regs x true = (x.f0 == 9 && x.f1 == -1)) := ⟨by unfold dstB; rw [if_pos rfl, hq]; rfl⟩
      rw [hu.out]
      cases h9 : (x.f0 == 9)
      all_goals
        go_enter Try.func45, Try.ntmps45
        go_wp2_with ((with_reducible refine hr.out.mono ?_); rintro e w' ⟨rfl, rfl⟩)
        go_ret
        exact ⟨rfl, hB.out⟩
    · rw [hq] at hr
      have hu : Aside0 (dstB c.regs x true = true) := ⟨by unfold dstB; rw [if_pos rfl, hq]; rfl⟩
      rw [hu.out]
      go_enter Try.func45, Try.ntmps45
      go_wp2_with ((with_reducible refine hr.out.mono ?_); rintro e w' ⟨rfl, rfl⟩)
      go_ret
      exact ⟨rfl, hB.out⟩
def immB (fs : List S33) (glob slots : Int) (x : S44) (has : Bool) : Bool :=
  if has = true then (if x.f0 = 4 then wi x.f3 0 glob else if x.f0 = 5 then wi x.f3 0 slots else if x.f0 = 8 then (x.f3 == 1 || x.f3 == 2) else if x.f0 = 9 then wi x.f3 0 ((fs.length : Int) - 1) && ((x.f2.length : Int) == (rd_T33 fs x.f3).f1) else true) else x.f3 == 0
set_option maxHeartbeats 8000000 in
set_option maxRecDepth 100000 in
theorem imm {w : World} {g : Nat} {c : Ckr} (hg : Aside0 (w.heap[g]? = some c.obj)) (x : S44) (A2 A6 : Option Addr) (c2 c6 : Nat) (has : Bool) (h0 : -2147483648 ≤ x.f3) (h1 : x.f3 ≤ 2147483647) (fs : List S33) (hn : fs.length = c.n0) (hf : Aside0 (Kd.C k33 w c.A0 c.n0 fs)) :
    Calls Try.prog 46 #[P g, iv x A2 A6 c2 c6, .bool has] w (RetB (.bool (immB fs c.glob c.slots x has)) w) := by
  have hB : Aside0 (Below w.heap.size w (w.alloc (ib x A2 A6 c2 c6))) := ⟨below_alloc (Below.refl _ _) _⟩
  have hg2 : Aside0 ((w.alloc (ib x A2 A6 c2 c6)).heap[g]? = some c.obj) := ⟨blk_alloc hg.out _⟩
  have hw : IntKind.i64.wrap x.f3 = x.f3 := IntWalk.i64_in _ (by omega)
  have k0 : (w.alloc (ib x A2 A6 c2 c6)).cell? ⟨g, 0, none⟩ = some (.slice c.A0 c.n0 c.c0) := (blk_cell hg2.out 0).trans rfl
  have k1 : (w.alloc (ib x A2 A6 c2 c6)).cell? ⟨g, 1, none⟩ = some (.int .i64 c.glob) := (blk_cell hg2.out 1).trans rfl
  have k7 : (w.alloc (ib x A2 A6 c2 c6)).cell? ⟨g, 7, none⟩ = some (.int .i64 c.slots) := (blk_cell hg2.out 7).trans rfl
  have hmx := Kd.C_max hf.out
  cases has
  · have e : immB fs c.glob c.slots x false = (x.f3 == 0) := rfl
    rw [e]
    go_enter Try.func46, Try.ntmps46
    go_wp2
    go_ret
    exact ⟨rfl, hB.out⟩
  · have e : immB fs c.glob c.slots x true = (if x.f0 = 4 then wi x.f3 0 c.glob else if x.f0 = 5 then wi x.f3 0 c.slots else if x.f0 = 8 then (x.f3 == 1 || x.f3 == 2) else if x.f0 = 9 then wi x.f3 0 ((fs.length : Int) - 1) && ((x.f2.length : Int) == (rd_T33 fs x.f3).f1) else true) := rfl
    by_cases e4 : x.f0 = 4
    · have hu : Aside0 (immB fs c.glob c.slots x true = wi x.f3 0 c.glob) := ⟨by rw [e, if_pos e4]⟩
      rw [hu.out]
      have f4 : (x.f0 == 4) = true := by simp [e4]
      clear e hf k0 k7 e4 hu
      go_enter Try.func46, Try.ntmps46
      go_wp2_with ((with_reducible refine (within _ _ _ _).mono ?_); rintro e w' ⟨rfl, rfl⟩)
      go_ret
      exact ⟨rfl, hB.out⟩
    by_cases e5 : x.f0 = 5
    · have hu : Aside0 (immB fs c.glob c.slots x true = wi x.f3 0 c.slots) := ⟨by rw [e, if_neg e4, if_pos e5]⟩
      rw [hu.out]
      have f4 : (x.f0 == 4) = false := by simpa using e4
      have f5 : (x.f0 == 5) = true := by simp [e5]
      clear e hf k0 k1 e4 e5 hu
      go_enter Try.func46, Try.ntmps46
      go_wp2_with ((with_reducible refine (within _ _ _ _).mono ?_); rintro e w' ⟨rfl, rfl⟩)
      go_ret
      exact ⟨rfl, hB.out⟩
    by_cases e8 : x.f0 = 8
    · have hu : Aside0 (immB fs c.glob c.slots x true = (x.f3 == 1 || x.f3 == 2)) := ⟨by rw [e, if_neg e4, if_neg e5, if_pos e8]⟩
      rw [hu.out]
      have f4 : (x.f0 == 4) = false := by simpa using e4
      have f5 : (x.f0 == 5) = false := by simpa using e5
      have f8 : (x.f0 == 8) = true := by simp [e8]
      clear e hf k0 k1 k7 e4 e5 e8 hu
      cases q : (x.f3 == 1)
      all_goals
        go_enter Try.func46, Try.ntmps46
        go_wp2
        go_ret
        exact ⟨rfl, hB.out⟩
    by_cases e9 : x.f0 = 9
    · have hu : Aside0 (immB fs c.glob c.slots x true = (wi x.f3 0 ((fs.length : Int) - 1) && ((x.f2.length : Int) == (rd_T33 fs x.f3).f1))) := ⟨by rw [e, if_neg e4, if_neg e5, if_neg e8, if_pos e9]⟩
      rw [hu.out]
      have f4 : (x.f0 == 4) = false := by simpa using e4
      have f5 : (x.f0 == 5) = false := by simpa using e5
      have f8 : (x.f0 == 8) = false := by simpa using e8
      have f9 : (x.f0 == 9) = true := by simp [e9]
      clear e k1 k7 e4 e5 e8 e9 hu
      have hwl : IntKind.i64.wrap ((c.n0 : Int) - 1) = (c.n0 : Int) - 1 := IntWalk.i64_in _ (by omega)
      have hq1 := Aside0.mk (fun w => within x.f3 0 ((c.n0 : Int) - 1) w)
      rw [hn]
      cases q : wi x.f3 0 ((c.n0 : Int) - 1)
      · rw [q] at hq1
        clear hf
        go_enter Try.func46, Try.ntmps46
        go_wp2
        go_quiet ((go_at_call 25; exact Calls.quiet_of_same ((hq1.out _).mono fun _ _ h => ⟨h.1, h.2.symm⟩)))
        go_wp2
        go_ret
        exact ⟨rfl, bdn hB.out _⟩
      · rw [q] at hq1
        have hi : 0 ≤ x.f3 ∧ x.f3 < c.n0 := by unfold wi at q; simp at q; omega
        obtain ⟨ad, A4, c4, hA, _, a1, _⟩ := at_T33 hf.out x.f3 hi.1 hi.2
        have hlt := World.block_lt_of_cell? w _ a1
        have a1 := ((below_alloc (Below.refl _ _) (ib x A2 A6 c2 c6)).cell hlt).trans a1
        clear hf hlt
        generalize (rd_T33 fs x.f3).f1 = y at *
        obtain ⟨i0, i1⟩ := hi
        go_enter Try.func46, Try.ntmps46
        go_wp2
        go_quiet ((go_at_call 25; exact Calls.quiet_of_same ((hq1.out _).mono fun _ _ h => ⟨h.1, h.2.symm⟩)))
        go_wp2
        go_ret
        exact ⟨rfl, bdn hB.out _⟩
    · have hu : Aside0 (immB fs c.glob c.slots x true = true) := ⟨by rw [e, if_neg e4, if_neg e5, if_neg e8, if_neg e9]⟩
      rw [hu.out]
      have f4 : (x.f0 == 4) = false := by simpa using e4
      have f5 : (x.f0 == 5) = false := by simpa using e5
      have f8 : (x.f0 == 8) = false := by simpa using e8
      have f9 : (x.f0 == 9) = false := by simpa using e9
      clear e hf k0 k1 k7 e4 e5 e8 e9 hu
      go_enter Try.func46, Try.ntmps46
      go_wp2
      go_ret
      exact ⟨rfl, hB.out⟩
/-- A block's values. -/
abbrev bv (b : S58) (A0 A3 : Option Addr) (c0 c3 : Nat) : Value := .agg #[.slice A0 b.f0.length c0, .int .i64 b.f1, .int .i64 b.f2, .slice A3 b.f3.length c3]
abbrev bb (b : S58) (A0 A3 : Option Addr) (c0 c3 : Nat) : Obj := .cells #[.slice A0 b.f0.length c0, .int .i64 b.f1, .int .i64 b.f2, .slice A3 b.f3.length c3] 58 (0, 0)
def tosB (n : Nat) (l : List Int) : Bool := l.all fun t => wi t 0 ((n : Int) - 1)
def endB (regs : Int) (n : Nat) (b : S58) : Bool := tosB n b.f3 && (if b.f1 = 1 then b.f3.length == 1 && b.f2 == 0 else if b.f1 = 2 then b.f3.length == 2 && wi b.f2 0 (regs - 1) else if b.f1 = 3 then b.f3.length == 0 && (b.f2 == -1 || wi b.f2 0 (regs - 1)) else false)
theorem all_take {p : Int → Bool} {l : List Int} {j : Nat} (h : j < l.length) : (l.take (j + 1)).all p = ((l.take j).all p && p (rd l j)) := by
  rw [List.take_succ_eq_append_getElem h, List.all_append]
  simp [rd, List.getD_eq_getElem?_getD, List.getElem?_eq_getElem h]
theorem all_no {p : Int → Bool} {l : List Int} {j : Nat} (h : j < l.length) (hp : p (rd l j) = false) : l.all p = false := by
  rw [← Bool.not_eq_true, List.all_eq_true]
  intro hh
  have := hh (rd l j) (by simp [rd, List.getD_eq_getElem?_getD, List.getElem?_eq_getElem h])
  rw [hp] at this
  cases this
set_option maxHeartbeats 8000000 in
set_option maxRecDepth 100000 in
theorem end_ {w : World} {g : Nat} {c : Ckr} (hg : Aside0 (w.heap[g]? = some c.obj)) (b : S58) (A0 A3 : Option Addr) (c0 c3 : Nat) (h0 : 0 ≤ c.regs) (h1 : c.regs ≤ 65536) (hn : c.n8 ≤ 65536) (hl : Aside0 (Kd.C (Kd.int .i64) w A3 b.f3.length b.f3)) :
    Calls Try.prog 27 #[P g, bv b A0 A3 c0 c3] w (RetB (.bool (endB c.regs c.n8 b)) w) := by
  have hB : Aside0 (Below w.heap.size w (w.alloc (bb b A0 A3 c0 c3))) := ⟨below_alloc (Below.refl _ _) _⟩
  have hg2 : Aside0 ((w.alloc (bb b A0 A3 c0 c3)).heap[g]? = some c.obj) := ⟨blk_alloc hg.out _⟩
  have hr := Aside0.mk (fun r => reg hg2 r h0 h1)
  have k8 : (w.alloc (bb b A0 A3 c0 c3)).cell? ⟨g, 8, none⟩ = some (.slice c.A8 c.n8 c.c8) := (blk_cell hg2.out 8).trans rfl
  have hmx := Kd.C_max hl.out
  have hwl : IntKind.i64.wrap ((c.n8 : Int) - 1) = (c.n8 : Int) - 1 := IntWalk.i64_in _ (by omega)
  clear hg hg2
  go_enter Try.func27, Try.ntmps27
  go_wp2
  go_loop [10] (fun i => ∃ j : Nat, j ≤ b.f3.length ∧ i = .int .i64 j ∧ Aside0 (tosB c.n8 (b.f3.take j) = true)) (fun i => b.f3.length - (intOf i).toNat)
  case atStart => exact ⟨0, by omega, rfl, ⟨rfl⟩⟩
  case round =>
    obtain ⟨j, hj, rfl, ht⟩ := hrel
    by_cases hlt : j < b.f3.length
    · obtain ⟨ad, e, a0⟩ := Kd.at_int hl.out j (by omega) (by omega)
      cases e
      simp only [Int.toNat_natCast] at a0
      have hlt2 := World.block_lt_of_cell? w _ a0
      have a0 := ((below_alloc (Below.refl _ _) (bb b A0 (some ad) c0 c3)).cell hlt2).trans a0
      have hst := all_take (p := fun t => wi t 0 ((c.n8 : Int) - 1)) hlt
      have hno := all_no (p := fun t => wi t 0 ((c.n8 : Int) - 1)) hlt
      have hq := within (rd b.f3 j) 0 ((c.n8 : Int) - 1)
      generalize rd b.f3 (j : Int) = y at *
      try dsimp only at hst hno
      cases hv : wi y 0 ((c.n8 : Int) - 1)
      · rw [hv] at hq hno
        have hend : Aside0 (endB c.regs c.n8 b = false) := ⟨by unfold endB tosB; rw [hno rfl]; rfl⟩
        have hq := Aside0.mk hq
        clear hst hno hl hr
        go_wp2_with ((with_reducible refine (hq.out _).mono ?_); rintro e w' ⟨rfl, rfl⟩)
        go_ret
        rw [hend.out]
        exact ⟨rfl, hB.out⟩
      · rw [hv] at hq hst
        have ht2 : Aside0 (tosB c.n8 (b.f3.take (j + 1)) = true) := ⟨by have := ht.out; unfold tosB at this ⊢; rw [hst, this]; rfl⟩
        have hq := Aside0.mk hq
        clear hst hno hl hr ht
        go_wp2_with ((with_reducible refine (hq.out _).mono ?_); rintro e w' ⟨rfl, rfl⟩)
        go_round
        case rel => exact ⟨j + 1, by omega, by go_num, ht2⟩
        case measure => simp [intOf]; omega
    · obtain rfl : j = b.f3.length := by omega
      have ht' := ht.out
      rw [List.take_length] at ht'
      have hend : endB c.regs c.n8 b = (if b.f1 = 1 then b.f3.length == 1 && b.f2 == 0 else if b.f1 = 2 then b.f3.length == 2 && wi b.f2 0 (c.regs - 1) else if b.f1 = 3 then b.f3.length == 0 && (b.f2 == -1 || wi b.f2 0 (c.regs - 1)) else false) := by unfold endB; rw [ht']; rfl
      clear ht ht' hl k8
      have hr2 := Aside0.mk (hr.out b.f2)
      clear hr
      generalize hwv : wi b.f2 0 (c.regs - 1) = wv at *
      by_cases e1 : b.f1 = 1
      · have hu : Aside0 (endB c.regs c.n8 b = (b.f3.length == 1 && b.f2 == 0)) := ⟨by rw [hend, if_pos e1]⟩
        have f1 : (b.f1 == 1) = true := by simp [e1]
        clear hend e1 hr2
        cases hx : (b.f3.length == 1)
        all_goals
          have hx2 : ((b.f3.length : Int) == 1) = (b.f3.length == 1) := by rw [Bool.eq_iff_iff]; simp; omega
          rw [hx] at hx2 hu
          clear hx
          go_wp2
          go_ret
          rw [hu.out]
          exact ⟨rfl, hB.out⟩
      by_cases e2 : b.f1 = 2
      · have hu : Aside0 (endB c.regs c.n8 b = (b.f3.length == 2 && wv)) := ⟨by rw [hend, if_neg e1, if_pos e2]⟩
        have f1 : (b.f1 == 1) = false := by simp [e2]
        have f2 : (b.f1 == 2) = true := by simp [e2]
        clear hend e1 e2
        cases hx : (b.f3.length == 2)
        all_goals
          have hx2 : ((b.f3.length : Int) == 2) = (b.f3.length == 2) := by rw [Bool.eq_iff_iff]; simp; omega
          rw [hx] at hx2 hu
          clear hx
          go_wp2_with ((with_reducible refine hr2.out.mono ?_); rintro e w' ⟨rfl, rfl⟩)
          go_ret
          rw [hu.out]
          exact ⟨rfl, hB.out⟩
      by_cases e3 : b.f1 = 3
      · have hu : Aside0 (endB c.regs c.n8 b = (b.f3.length == 0 && (b.f2 == -1 || wv))) := ⟨by rw [hend, if_neg e1, if_neg e2, if_pos e3]⟩
        have f1 : (b.f1 == 1) = false := by simp [e3]
        have f2 : (b.f1 == 2) = false := by simp [e3]
        have f3 : (b.f1 == 3) = true := by simp [e3]
        clear hend e1 e2 e3
        cases hx : (b.f3.length == 0)
        all_goals
          have hx2 : ((b.f3.length : Int) == 0) = (b.f3.length == 0) := by rw [Bool.eq_iff_iff]; simp
          rw [hx] at hx2 hu
          clear hx
          cases hy : (b.f2 == -1)
        all_goals
          rw [hy] at hu
          go_wp2_with ((with_reducible refine hr2.out.mono ?_); rintro e w' ⟨rfl, rfl⟩)
          go_ret
          rw [hu.out]
          exact ⟨rfl, hB.out⟩
      · have hu : Aside0 (endB c.regs c.n8 b = false) := ⟨by rw [hend, if_neg e1, if_neg e2, if_neg e3]⟩
        have f1 : (b.f1 == 1) = false := by simpa using e1
        have f2 : (b.f1 == 2) = false := by simpa using e2
        have f3 : (b.f1 == 3) = false := by simpa using e3
        clear hend e1 e2 e3 hr2
        go_wp2
        go_ret
        rw [hu.out]
        exact ⟨rfl, hB.out⟩
end Go.Proofs.Ytobikiffjanagaa.IrA
end
section
namespace Go.Proofs.Ytobikiffjanagaa.GF
open Go.RowKit Go.Proofs.YtobikiffjanagaaW.PrintWords Go.Proofs.YtobikiffjanagaaW.PrintLast Go.Proofs.YtobikiffjanagaaW.PrintMore
attribute [local go_sem] max2_int min2_int max_two min_two max_three min_three max_four min_four   -- for this text's walks alone
set_option linter.unusedVariables false
set_option linter.unusedSimpArgs false
/-- A state of type 55 at block g of W; what its slices lead to came in by w0. -/
def IsS55 (w0 W : World) (g : Nat) (f0 : List (S33)) (f1 : Int) (f2 : List (S51)) (f3 : Int) (f4 : ByteArray) (f5 : Int) (f6 : Int) (f7 : Int) (f8 : List (S58)) (f9 : List (List Int)) : Prop := ∃ A0 c0, ∃ A2 c2, ∃ A8 c8, ∃ A9 c9, W.heap[g]? = some (.cells #[.slice A0 f0.length c0, .int .i64 f1, .slice A2 f2.length c2, .int .i64 f3, .string f4, .int .i64 f5, .int .i64 f6, .int .i64 f7, .slice A8 f8.length c8, .slice A9 f9.length c9] 55 (0, 0)) ∧ w0.heap.size ≤ g ∧ Kd.C k33 w0 A0 f0.length f0 ∧ Kd.C k51 w0 A2 f2.length f2 ∧ Kd.C k58 w0 A8 f8.length f8 ∧ Kd.C (Kd.slice 3 (Kd.int .i64)) w0 A9 f9.length f9
theorem IsS55.grown {w0 W : World} {g : Nat} {f0 : List (S33)} {f1 : Int} {f2 : List (S51)} {f3 : Int} {f4 : ByteArray} {f5 : Int} {f6 : Int} {f7 : Int} {f8 : List (S58)} {f9 : List (List Int)} {W1 : World} {row : Option Nat} (h : IsS55 w0 W g f0 f1 f2 f3 f4 f5 f6 f7 f8 f9) (hw : W.grownBy W1 row) (hne : some g ≠ row) : IsS55 w0 W1 g f0 f1 f2 f3 f4 f5 f6 f7 f8 f9 := by
  obtain ⟨A0, c0, A2, c2, A8, c8, A9, c9, hb, hg, hr0, hr2, hr8, hr9⟩ := h
  exact ⟨A0, c0, A2, c2, A8, c8, A9, c9, blk_grown hb hw hne, hg, hr0, hr2, hr8, hr9⟩
theorem IsS55.kept {w0 W : World} {g : Nat} {f0 : List (S33)} {f1 : Int} {f2 : List (S51)} {f3 : Int} {f4 : ByteArray} {f5 : Int} {f6 : Int} {f7 : Int} {f8 : List (S58)} {f9 : List (List Int)} {W1 : World} {S : Nat → Prop} (h : IsS55 w0 W g f0 f1 f2 f3 f4 f5 f6 f7 f8 f9) (hk : Kept W W1 S) (hne : ¬ S g) : IsS55 w0 W1 g f0 f1 f2 f3 f4 f5 f6 f7 f8 f9 := by
  obtain ⟨A0, c0, A2, c2, A8, c8, A9, c9, hb, hg, hr0, hr2, hr8, hr9⟩ := h
  exact ⟨A0, c0, A2, c2, A8, c8, A9, c9, blk_kept hb hk hne, hg, hr0, hr2, hr8, hr9⟩
theorem IsS55.below {w0 W : World} {g : Nat} {f0 : List (S33)} {f1 : Int} {f2 : List (S51)} {f3 : Int} {f4 : ByteArray} {f5 : Int} {f6 : Int} {f7 : Int} {f8 : List (S58)} {f9 : List (List Int)} {W1 : World} (h : IsS55 w0 W g f0 f1 f2 f3 f4 f5 f6 f7 f8 f9) (hw : Below W.heap.size W W1) : IsS55 w0 W1 g f0 f1 f2 f3 f4 f5 f6 f7 f8 f9 := h.grown (grown_of_below hw none) (by simp)
theorem IsS55.alloc {w0 W : World} {g : Nat} {f0 : List (S33)} {f1 : Int} {f2 : List (S51)} {f3 : Int} {f4 : ByteArray} {f5 : Int} {f6 : Int} {f7 : Int} {f8 : List (S58)} {f9 : List (List Int)} (h : IsS55 w0 W g f0 f1 f2 f3 f4 f5 f6 f7 f8 f9) (o : Obj) : IsS55 w0 (W.alloc o) g f0 f1 f2 f3 f4 f5 f6 f7 f8 f9 := h.below (below_alloc (Below.refl _ _) o)
theorem IsS55.drewN {w0 W : World} {g : Nat} {f0 : List (S33)} {f1 : Int} {f2 : List (S51)} {f3 : Int} {f4 : ByteArray} {f5 : Int} {f6 : Int} {f7 : Int} {f8 : List (S58)} {f9 : List (List Int)} (h : IsS55 w0 W g f0 f1 f2 f3 f4 f5 f6 f7 f8 f9) (m : Nat) : IsS55 w0 (W.drewN m) g f0 f1 f2 f3 f4 f5 f6 f7 f8 f9 := h
theorem IsS55.drew {w0 W : World} {g : Nat} {f0 : List (S33)} {f1 : Int} {f2 : List (S51)} {f3 : Int} {f4 : ByteArray} {f5 : Int} {f6 : Int} {f7 : Int} {f8 : List (S58)} {f9 : List (List Int)} (h : IsS55 w0 W g f0 f1 f2 f3 f4 f5 f6 f7 f8 f9) : IsS55 w0 W.drew g f0 f1 f2 f3 f4 f5 f6 f7 f8 f9 := h
theorem IsS55.at_ {w0 W : World} {g : Nat} {f0 : List (S33)} {f1 : Int} {f2 : List (S51)} {f3 : Int} {f4 : ByteArray} {f5 : Int} {f6 : Int} {f7 : Int} {f8 : List (S58)} {f9 : List (List Int)} {w' : World} {m : Nat} (hq : W.drewN m = w') (h : IsS55 w0 W g f0 f1 f2 f3 f4 f5 f6 f7 f8 f9) : IsS55 w0 w' g f0 f1 f2 f3 f4 f5 f6 f7 f8 f9 := by subst hq; exact IsS55.drewN h m
theorem IsS55.apart {w0 W : World} {g : Nat} {f0 : List (S33)} {f1 : Int} {f2 : List (S51)} {f3 : Int} {f4 : ByteArray} {f5 : Int} {f6 : Int} {f7 : Int} {f8 : List (S58)} {f9 : List (List Int)} {α : Type} {d : Kd α} {e : Nat} {base : Nat} {ok : Nat → Prop} {v : Value} {xs : List α} (h : IsS55 w0 W g f0 f1 f2 f3 f4 f5 f6 f7 f8 f9) (ho : d.R e W base ok v xs) (ht : ∀ q, q ∈ e :: d.E → q ≠ 55) : d.R e W base (fun k => ok k ∧ k ≠ g) v xs := by
  obtain ⟨A0, c0, A2, c2, A8, c8, A9, c9, hb, hg, hr0, hr2, hr8, hr9⟩ := h
  exact Kd.R_types ho hb ht
theorem IsS55.own_ne {w0 W : World} {g : Nat} {f0 : List (S33)} {f1 : Int} {f2 : List (S51)} {f3 : Int} {f4 : ByteArray} {f5 : Int} {f6 : Int} {f7 : Int} {f8 : List (S58)} {f9 : List (List Int)} {α : Type} {d : Kd α} {e : Nat} {base : Nat} {ok : Nat → Prop} {v : Value} {xs : List α} (h : IsS55 w0 W g f0 f1 f2 f3 f4 f5 f6 f7 f8 f9) (ho : d.R e W base ok v xs) (ht : e ≠ 55) : some g ≠ v.ownBlock := by
  obtain ⟨A0, c0, A2, c2, A8, c8, A9, c9, hb, hg, hr0, hr2, hr8, hr9⟩ := h
  exact Kd.R_ne ho hb ht
theorem IsS55.lt {w0 W : World} {g : Nat} {f0 : List (S33)} {f1 : Int} {f2 : List (S51)} {f3 : Int} {f4 : ByteArray} {f5 : Int} {f6 : Int} {f7 : Int} {f8 : List (S58)} {f9 : List (List Int)} (h : IsS55 w0 W g f0 f1 f2 f3 f4 f5 f6 f7 f8 f9) : g < W.heap.size := by
  obtain ⟨A0, c0, A2, c2, A8, c8, A9, c9, hb, hg, hr0, hr2, hr8, hr9⟩ := h
  exact blk_lt hb
def slices_Equal_int_int.l0 : Nat → List Int → List Int → Int → Int → Option (Bool)
  | 0, _, _, _, _ => none
  | k + 1, x0, x1, x12, x13 => if x13 < x12 then (if 0 ≤ x13 then (if x13 < (x0.length : Int) then (if x13 < (x1.length : Int) then (if (rd x0 x13) = (rd x1 x13) then (slices_Equal_int_int.l0 k x0 x1 x12 (wrap64 (x13 + 1))) else (some false)) else (none)) else (none)) else (none)) else (some true)
def slices_Equal_int_int.f (k : Nat) (l0 : List Int) (l1 : List Int) : Option (Bool) := if (l0.length : Int) = (l1.length : Int) then (slices_Equal_int_int.l0 k l0 l1 (l0.length : Int) 0) else (some false)
set_option maxHeartbeats 8000000 in
set_option maxRecDepth 100000 in
theorem slices_Equal_int_int.calls (k : Nat) (A0 : Option Addr) (c0 : Nat) (l0 : List Int) (A1 : Option Addr) (c1 : Nat) (l1 : List Int) (r : Bool) (w : World) (hr0 : Kd.C (Kd.int .i64) w A0 l0.length l0) (hc0 : l0.length ≤ c0) (hr1 : Kd.C (Kd.int .i64) w A1 l1.length l1) (hc1 : l1.length ≤ c1) (h : slices_Equal_int_int.f k l0 l1 = some r) :
    Calls Try.prog 40 #[.slice A0 l0.length c0, .slice A1 l1.length c1] w fun e w' => e = .returned (.bool r) ∧ Drawn0 w w' := by
  have HR0 := Aside0.mk hr0
  have HC0 := Aside0.mk hc0
  clear hr0 hc0
  have HR1 := Aside0.mk hr1
  have HC1 := Aside0.mk hc1
  clear hr1 hc1
  have H : (if (l0.length : Int) = (l1.length : Int) then (slices_Equal_int_int.l0 k l0 l1 (l0.length : Int) 0) else (some false)) = some r := h
  clear h
  by_cases c3 : (l0.length : Int) = (l1.length : Int)
  · rw [if_pos c3] at H
    have c3b0 : ((l0.length : Int) == (l1.length : Int)) = true := beq_iff_eq.mpr c3
    have c3b1 : ((l0.length : Int) != (l1.length : Int)) = false := bne_eq_false_iff_eq.mpr c3
    have c3b2 : (l0.length == l1.length) = true := by first | simpa using c3 | (simp at c3 ⊢; omega)
    clear c3
    have H' := Aside0.mk H
    clear H
    go_enter Try.func40, Try.ntmps40
    go_wp2
    repeat (go_quiet (fail); try go_wp2)
    go_loopg [13] k (fun kq v13 w' => ∃ (x13_1 : Int), v13 = .int .i64 x13_1 ∧ Aside0 (slices_Equal_int_int.l0 kq l0 l1 (l0.length : Int) x13_1 = some r) ∧ Aside0 (kq ≤ k) ∧ Drawn0 w w')
    case atStart => exact ⟨(0), (by first | rfl | (simp; done) | (simp [*]; done)), H', ⟨Nat.le_refl _⟩, by repeat (first | exact Drawn0.refl _ | apply Drawn0.step)⟩
    case round =>
      clear H'
      try clear c1
      try clear p2
      try clear c3
      try clear c3b0
      try clear c3b1
      try clear c3b2
      obtain ⟨x13_1, rfl, HA, HK1, ⟨m1, rfl⟩⟩ := hrel
      cases gk with
      | zero => exact absurd HA.out (by simp [slices_Equal_int_int.l0])
      | succ k1 =>
        have H := HA.out
        clear HA
        simp only [slices_Equal_int_int.l0] at H
        by_cases c4 : x13_1 < (l0.length : Int)
        · rw [if_pos c4] at H
          have c4b0 : decide (x13_1 < (l0.length : Int)) = true := decide_eq_true c4
          clear c4
          by_cases c5 : 0 ≤ x13_1
          · rw [if_pos c5] at H
            have c5b0 : decide (0 ≤ x13_1) = true := decide_eq_true c5
            clear c5
            by_cases c6 : x13_1 < (l0.length : Int)
            · rw [if_pos c6] at H
              have c6b0 : decide (x13_1 < (l0.length : Int)) = true := decide_eq_true c6
              clear c6
              by_cases c7 : x13_1 < (l1.length : Int)
              · rw [if_pos c7] at H
                have c7b0 : decide (x13_1 < (l1.length : Int)) = true := decide_eq_true c7
                clear c7
                by_cases c8 : (rd l0 x13_1) = (rd l1 x13_1)
                · rw [if_pos c8] at H
                  have c8b0 : ((rd l0 x13_1) == (rd l1 x13_1)) = true := beq_iff_eq.mpr c8
                  have c8b1 : ((rd l0 x13_1) != (rd l1 x13_1)) = false := bne_eq_false_iff_eq.mpr c8
                  clear c8
                  have H' := Aside0.mk H
                  clear H
                  have p119 : 0 ≤ (x13_1 : Int) := of_decide_eq_true (by first | (with_reducible assumption) | assumption)
                  have q119 : x13_1 < (l0.length : Int) := of_decide_eq_true (by first | (with_reducible assumption) | assumption)
                  obtain ⟨ad119, e119, hx119_0⟩ := Kd.at_int HR0.out x13_1 p119 q119
                  cases e119
                  replace p119 := eq_true p119
                  replace q119 := eq_true q119
                  have p120 : 0 ≤ (x13_1 : Int) := of_decide_eq_true (by first | (with_reducible assumption) | assumption)
                  have q120 : x13_1 < (l1.length : Int) := of_decide_eq_true (by first | (with_reducible assumption) | assumption)
                  obtain ⟨ad120, e120, hx120_0⟩ := Kd.at_int HR1.out x13_1 p120 q120
                  cases e120
                  replace p120 := eq_true p120
                  replace q120 := eq_true q120
                  go_wp2
                  repeat (go_quiet (fail); try go_wp2)
                  go_roundg k1
                  case measure => have := HK1.out; omega
                  case rel => exact ⟨(wrap64 (x13_1 + 1)), (by first | rfl | (simp; done) | (simp [*]; done)), H', ⟨by have := HK1.out; omega⟩, by repeat (first | exact Drawn0.refl _ | apply Drawn0.step)⟩
                · rw [if_neg c8] at H
                  have c8b0 : ((rd l0 x13_1) == (rd l1 x13_1)) = false := beq_eq_false_iff_ne.mpr c8
                  have c8b1 : ((rd l0 x13_1) != (rd l1 x13_1)) = true := bne_iff_ne.mpr c8
                  obtain rfl := Option.some.inj H
                  have p119 : 0 ≤ (x13_1 : Int) := of_decide_eq_true (by first | (with_reducible assumption) | assumption)
                  have q119 : x13_1 < (l0.length : Int) := of_decide_eq_true (by first | (with_reducible assumption) | assumption)
                  obtain ⟨ad119, e119, hx119_0⟩ := Kd.at_int HR0.out x13_1 p119 q119
                  cases e119
                  replace p119 := eq_true p119
                  replace q119 := eq_true q119
                  have p120 : 0 ≤ (x13_1 : Int) := of_decide_eq_true (by first | (with_reducible assumption) | assumption)
                  have q120 : x13_1 < (l1.length : Int) := of_decide_eq_true (by first | (with_reducible assumption) | assumption)
                  obtain ⟨ad120, e120, hx120_0⟩ := Kd.at_int HR1.out x13_1 p120 q120
                  cases e120
                  replace p120 := eq_true p120
                  replace q120 := eq_true q120
                  go_wp2
                  repeat (go_quiet (fail); try go_wp2)
                  go_ret
                  exact ⟨by first | rfl | (simp; done) | (simp [*]; done), by repeat (first | exact Drawn0.refl _ | apply Drawn0.step)⟩
              · rw [if_neg c7] at H
                exact absurd H (by simp)
            · rw [if_neg c6] at H
              exact absurd H (by simp)
          · rw [if_neg c5] at H
            exact absurd H (by simp)
        · rw [if_neg c4] at H
          have c4b0 : decide (x13_1 < (l0.length : Int)) = false := decide_eq_false c4
          clear c4
          obtain rfl := Option.some.inj H
          go_wp2
          repeat (go_quiet (fail); try go_wp2)
          go_ret
          exact ⟨by first | rfl | (simp; done) | (simp [*]; done), by repeat (first | exact Drawn0.refl _ | apply Drawn0.step)⟩
  · rw [if_neg c3] at H
    have c3b0 : ((l0.length : Int) == (l1.length : Int)) = false := beq_eq_false_iff_ne.mpr c3
    have c3b1 : ((l0.length : Int) != (l1.length : Int)) = true := bne_iff_ne.mpr c3
    have c3b2 : (l0.length == l1.length) = false := by first | simpa using c3 | (simp at c3 ⊢; omega)
    obtain rfl := Option.some.inj H
    go_enter Try.func40, Try.ntmps40
    go_wp2
    repeat (go_quiet (fail); try go_wp2)
    go_ret
    exact ⟨by first | rfl | (simp; done) | (simp [*]; done), by repeat (first | exact Drawn0.refl _ | apply Drawn0.step)⟩
end Go.Proofs.Ytobikiffjanagaa.GF
end
section
namespace Go.Proofs.Ytobikiffjanagaa.IrA
open Go.RowKit Go.Proofs.YtobikiffjanagaaW.PrintWords Go.Proofs.YtobikiffjanagaaW.PrintLast Go.Proofs.Ytobikiffjanagaa.GF
set_option linter.unusedVariables false
set_option linter.unusedSimpArgs false
/-- An operation's parts: dst, args, imm, alu, wide, pred; is it one? -/
structure Pt where
  d : Bool
  n : Int
  i : Bool
  a : Bool
  wd : Bool
  p : Bool
  is : Bool
def pt (op : Int) : Pt :=
  if op = 1 ∨ op = 4 ∨ op = 5 then ⟨true, 0, true, false, false, false, true⟩
  else if op = 2 then ⟨true, 1, false, false, false, false, true⟩
  else if op = 3 then ⟨true, 2, false, true, false, false, true⟩
  else if op = 6 then ⟨true, 1, true, false, true, false, true⟩
  else if op = 7 then ⟨false, 2, true, false, true, false, true⟩
  else if op = 8 then ⟨false, 1, true, false, false, false, true⟩
  else if op = 9 then ⟨true, -1, true, false, false, false, true⟩
  else if op = 10 then ⟨true, 0, false, false, false, false, true⟩
  else if op = 11 then ⟨false, 1, false, false, false, false, true⟩
  else if op = 12 then ⟨true, -1, false, false, false, true, true⟩
  else ⟨false, 0, false, false, false, false, false⟩
abbrev ptv (s : Pt) : Value := .agg #[.bool s.d, .int .i64 s.n, .bool s.i, .bool s.a, .bool s.wd, .bool s.p]
def ShapeIs (op : Int) (s : Pt) : Prop := ∀ w, Calls Try.prog 44 #[.int .i64 op] w (RetB (.tuple #[ptv s, .bool s.is]) w)
theorem ShapeIs.call {op : Int} {s : Pt} (h : ShapeIs op s) (w : World) : Calls Try.prog 44 #[.int .i64 op] w (RetB (.tuple #[ptv s, .bool s.is]) w) := h w
/-- An element of a list of lists. -/
theorem atL {w : World} {A : Option Addr} {n : Nat} {xs : List (List Int)} (h : Kd.C (Kd.slice 3 (Kd.int .i64)) w A n xs) (i : Nat) (h1 : i < n) : ∃ ad A0 c0, A = some ad ∧ w.cell? (ad.add i) = some (.slice A0 (xs.getD i []).length c0) ∧ (xs.getD i []).length ≤ c0 ∧ (Kd.int .i64).C w A0 (xs.getD i []).length (xs.getD i []) := by
  obtain ⟨ad, c, e, _, hK, hc0⟩ := Kd.C_get h ([] : List Int) (i : Int) (by omega) (by omega)
  rw [Int.toNat_natCast] at hK hc0
  have hc : ∀ j u, c[j]? = some u → w.cell? (ad.add (i * 1 + j)) = some u := hc0
  obtain ⟨A0, c0, rfl, l0, g0⟩ := hK
  exact ⟨ad, A0, c0, e, by have hq := hc 0 _ rfl; rwa [Nat.mul_one, Nat.add_zero] at hq, l0, g0⟩
theorem equal_f : ∀ (d : Nat) (k : Nat) (l r : List Int) (j : Nat), l.length = r.length → j + d = l.length → d < k → l.length ≤ 9223372036854775807 → slices_Equal_int_int.l0 k l r (l.length : Int) (j : Int) = some (l.drop j == r.drop j)
  | 0, k, l, r, j, h, hd, hk, hm => by
    obtain ⟨k, rfl⟩ : ∃ m, k = m + 1 := ⟨k - 1, by omega⟩
    simp only [slices_Equal_int_int.l0]
    rw [if_neg (by omega), List.drop_of_length_le (by omega), List.drop_of_length_le (by omega)]
    rfl
  | d + 1, k, l, r, j, h, hd, hk, hm => by
    obtain ⟨k, rfl⟩ : ∃ m, k = m + 1 := ⟨k - 1, by omega⟩
    simp only [slices_Equal_int_int.l0]
    rw [if_pos (by omega), if_pos (by omega), if_pos (by omega), if_pos (by omega)]
    have hw : wrap64 ((j : Int) + 1) = ((j + 1 : Nat) : Int) := by unfold wrap64; omega
    have d1 : l.drop j = l[j] :: l.drop (j + 1) := List.drop_eq_getElem_cons (by omega)
    have d2 : r.drop j = r[j] :: r.drop (j + 1) := List.drop_eq_getElem_cons (by omega)
    rw [hw, equal_f d k l r (j + 1) h (by omega) (by omega) hm, d1, d2]
    have e1 : rd l j = l[j] := by simp [rd, List.getD_eq_getElem?_getD, List.getElem?_eq_getElem (show j < l.length by omega)]
    have e2 : rd r j = r[j] := by simp [rd, List.getD_eq_getElem?_getD, List.getElem?_eq_getElem (show j < r.length by omega)]
    rw [e1, e2]
    by_cases hq : l[j] = r[j]
    · rw [if_pos hq, hq]
      congr 1
      rw [Bool.eq_iff_iff]
      simp only [beq_iff_eq, List.cons.injEq, true_and]
    · rw [if_neg hq]
      congr 1
      symm
      rw [← Bool.not_eq_true, beq_iff_eq]
      intro e
      injection e with e _
      exact hq e
theorem equal_eq (l r : List Int) (hm : l.length ≤ 9223372036854775807) : slices_Equal_int_int.f (l.length + 1) l r = some (l == r) := by
  unfold slices_Equal_int_int.f
  by_cases h : l.length = r.length
  · rw [if_pos (by omega)]
    have := equal_f l.length (l.length + 1) l r 0 h (by omega) (by omega) hm
    simpa using this
  · rw [if_neg (by omega)]
    have : l ≠ r := fun e => h (by rw [e])
    simp [this]
theorem equal {w : World} {A0 A1 : Option Addr} {c0 c1 : Nat} {l r : List Int} (hl : Aside0 (Kd.C (Kd.int .i64) w A0 l.length l)) (hr : Aside0 (Kd.C (Kd.int .i64) w A1 r.length r)) (hc0 : l.length ≤ c0) (hc1 : r.length ≤ c1) :
    Calls Try.prog 40 #[.slice A0 l.length c0, .slice A1 r.length c1] w fun e w' => e = .returned (.bool (l == r)) ∧ Drawn0 w w' :=
  slices_Equal_int_int.calls (l.length + 1) A0 c0 l A1 c1 r (l == r) w hl.out hc0 hr.out hc1 (equal_eq l r (Kd.C_max hl.out))
def isB (regs : Int) (fs : List S33) (glob slots : Int) (preds : List (List Int)) (blk : Nat) (x : S44) (s : Pt) : Bool :=
  s.is && (dstB regs x s.d && (immB fs glob slots x s.i && (!(decide (0 ≤ s.n) && (x.f2.length : Int) != s.n) && ((x.f2.all fun r => wi r 0 (regs - 1)) &&
  (!(s.a != wi x.f4 1 19 || (!s.a && x.f4 != 0)) && (!((s.wd && x.f5 != 1 && x.f5 != 4) || (!s.wd && x.f5 != 0)) &&
  (if s.p = true then (x.f2.length == x.f6.length && x.f6 == preds.getD blk []) else x.f6.length == 0)))))))
abbrev so (s : Pt) : Obj := .cells #[.bool s.d, .int .i64 s.n, .bool s.i, .bool s.a, .bool s.wd, .bool s.p] 74 (0, 0)
/-- What instr knows of a world: the checker at g, the instruction's box at X, its parts at Y. -/
structure St (w : World) (g X Y : Nat) (c : Ckr) (x : S44) (A2 A6 : Option Addr) (c2 c6 : Nat) (s : Pt) (fs : List S33) (A9 : Option Addr) (preds : List (List Int)) (W : World) : Prop where
  hg : W.heap[g]? = some c.obj
  hI : W.heap[X]? = some (ib x A2 A6 c2 c6)
  hS : W.heap[Y]? = some (so s)
  m2 : Kd.C (Kd.int .i64) W A2 x.f2.length x.f2
  m6 : Kd.C (Kd.int .i64) W A6 x.f6.length x.f6
  m9 : Kd.C (Kd.slice 3 (Kd.int .i64)) W A9 preds.length preds
  mf : Kd.C k33 W c.A0 c.n0 fs
  hB : Below w.heap.size w W
theorem St.next {w W W' : World} {g X Y : Nat} {c : Ckr} {x : S44} {A2 A6 : Option Addr} {c2 c6 : Nat} {s : Pt} {fs : List S33} {A9 : Option Addr} {preds : List (List Int)} (h : St w g X Y c x A2 A6 c2 c6 s fs A9 preds W) (b : Below W.heap.size W W') : St w g X Y c x A2 A6 c2 c6 s fs A9 preds W' :=
  ⟨(b.block _ (blk_lt h.hg)).trans h.hg, (b.block _ (blk_lt h.hI)).trans h.hI, (b.block _ (blk_lt h.hS)).trans h.hS, Kd.C_below h.m2 b, Kd.C_below h.m6 b, Kd.C_below h.m9 b, Kd.C_below h.mf b, below_step h.hB b⟩
theorem St.cells {w W : World} {g X Y : Nat} {c : Ckr} {x : S44} {A2 A6 : Option Addr} {c2 c6 : Nat} {s : Pt} {fs : List S33} {A9 : Option Addr} {preds : List (List Int)} (h : St w g X Y c x A2 A6 c2 c6 s fs A9 preds W) :
    (W.cell? ⟨X, 0, none⟩ = some (.int .i64 x.f0) ∧ W.cell? ⟨X, 1, none⟩ = some (.int .i64 x.f1) ∧ W.cell? ⟨X, 2, none⟩ = some (.slice A2 x.f2.length c2) ∧ W.cell? ⟨X, 3, none⟩ = some (.int .i32 x.f3) ∧ W.cell? ⟨X, 4, none⟩ = some (.int .i64 x.f4) ∧ W.cell? ⟨X, 5, none⟩ = some (.int .i64 x.f5) ∧ W.cell? ⟨X, 6, none⟩ = some (.slice A6 x.f6.length c6)) ∧
    (W.cell? ⟨Y, 0, none⟩ = some (.bool s.d) ∧ W.cell? ⟨Y, 1, none⟩ = some (.int .i64 s.n) ∧ W.cell? ⟨Y, 2, none⟩ = some (.bool s.i) ∧ W.cell? ⟨Y, 3, none⟩ = some (.bool s.a) ∧ W.cell? ⟨Y, 4, none⟩ = some (.bool s.wd) ∧ W.cell? ⟨Y, 5, none⟩ = some (.bool s.p)) ∧ W.cell? ⟨g, 9, none⟩ = some c.v9 :=
  ⟨⟨(blk_cell h.hI 0).trans rfl, (blk_cell h.hI 1).trans rfl, (blk_cell h.hI 2).trans rfl, (blk_cell h.hI 3).trans rfl, (blk_cell h.hI 4).trans rfl, (blk_cell h.hI 5).trans rfl, (blk_cell h.hI 6).trans rfl⟩, ⟨(blk_cell h.hS 0).trans rfl, (blk_cell h.hS 1).trans rfl, (blk_cell h.hS 2).trans rfl, (blk_cell h.hS 3).trans rfl, (blk_cell h.hS 4).trans rfl, (blk_cell h.hS 5).trans rfl⟩, (blk_cell h.hg 9).trans rfl⟩
set_option maxHeartbeats 16000000 in
set_option maxRecDepth 100000 in
theorem instr {w : World} {g : Nat} {c : Ckr} (hg : Aside0 (w.heap[g]? = some c.obj)) (x : S44) (A2 A6 : Option Addr) (c2 c6 : Nat) (blk : Nat) (s : Pt) (hs : Aside0 (ShapeIs x.f0 s))
    (h0 : 0 ≤ c.regs) (h1 : c.regs ≤ 65536) (i0 : -2147483648 ≤ x.f3) (i1 : x.f3 ≤ 2147483647) (fs : List S33) (hn : fs.length = c.n0) (hf : Aside0 (Kd.C k33 w c.A0 c.n0 fs))
    (h2 : Aside0 (Kd.C (Kd.int .i64) w A2 x.f2.length x.f2)) (h6 : Aside0 (Kd.C (Kd.int .i64) w A6 x.f6.length x.f6)) (l2 : x.f2.length ≤ c2) (l6 : x.f6.length ≤ c6)
    (A9 : Option Addr) (c9 : Nat) (preds : List (List Int)) (hv : c.v9 = .slice A9 preds.length c9) (h9 : Aside0 (Kd.C (Kd.slice 3 (Kd.int .i64)) w A9 preds.length preds)) (hb : blk < preds.length) :
    Calls Try.prog 28 #[P g, iv x A2 A6 c2 c6, .int .i64 blk] w (RetB (.bool (isB c.regs fs c.glob c.slots preds blk x s)) w) := by
  have hmx := Kd.C_max h2.out
  have hmx6 := Kd.C_max h6.out
  have hI := blk_new w (ib x A2 A6 c2 c6)
  have hB : Aside0 (Below w.heap.size w (w.alloc (ib x A2 A6 c2 c6))) := ⟨below_alloc (Below.refl _ _) _⟩
  have hw9 := Aside0.mk hv
  clear hv
  go_enter Try.func28, Try.ntmps28
  go_wp2_with fail
  (with_reducible refine (hs.out.call _).mono ?_)
  rintro e w1 ⟨rfl, hb1⟩
  have hI1 := Aside0.mk ((hb1.block _ (blk_lt hI)).trans hI)
  have hB1 := Aside0.mk (below_step hB.out hb1)
  clear hb1 hI hB hs
  have hS := Aside0.mk (blk_new w1 (so s))
  have hst : Aside0 (St w g w.heap.size w1.heap.size c x A2 A6 c2 c6 s fs A9 preds (w1.alloc (so s))) := ⟨by
    have b := below_step hB1.out (below_alloc (Below.refl _ _) (so s))
    exact ⟨(b.block g (blk_lt hg.out)).trans hg.out, blk_alloc hI1.out (so s), hS.out, Kd.C_below h2.out b, Kd.C_below h6.out b, Kd.C_below h9.out b, Kd.C_below hf.out b, b⟩⟩
  have hlt := blk_lt hI1.out
  clear hB1 hI1 h2 h6 h9 hf hg hS
  obtain ⟨⟨a0, a1, a2, a3, a4, a5, a6⟩, ⟨b0, b1, b2, b3, b4, b5⟩, -⟩ := hst.out.cells
  cases hq : s.is
  · have hu : Aside0 (isB c.regs fs c.glob c.slots preds blk x s = false) := ⟨by unfold isB; rw [hq]; rfl⟩
    go_wp2
    go_ret
    rw [hu.out]
    exact ⟨rfl, hst.out.hB⟩
  · have hd := Aside0.mk (dst ⟨hst.out.hg⟩ x A2 A6 c2 c6 s.d h0 h1)
    cases hdv : dstB c.regs x s.d
    · have hu : Aside0 (isB c.regs fs c.glob c.slots preds blk x s = false) := ⟨by unfold isB; rw [hq, hdv]; rfl⟩
      rw [hdv] at hd
      go_wp2_with fail
      (with_reducible refine hd.out.mono ?_)
      rintro e w2 ⟨rfl, hb2⟩
      have hst2 := Aside0.mk (hst.out.next hb2)
      clear hst hd hb2 a0 a1 a2 a3 a4 a5 a6 b0 b1 b2 b3 b4 b5
      go_wp2
      go_ret
      rw [hu.out]
      exact ⟨rfl, hst2.out.hB⟩
    · rw [hdv] at hd
      go_wp2_with fail
      (with_reducible refine hd.out.mono ?_)
      rintro e w2 ⟨rfl, hb2⟩
      have hst2 := Aside0.mk (hst.out.next hb2)
      clear hst hd hb2 a0 a1 a2 a3 a4 a5 a6 b0 b1 b2 b3 b4 b5
      obtain ⟨⟨a0, a1, a2, a3, a4, a5, a6⟩, ⟨b0, b1, b2, b3, b4, b5⟩, -⟩ := hst2.out.cells
      have hi := Aside0.mk (imm ⟨hst2.out.hg⟩ x A2 A6 c2 c6 s.i i0 i1 fs hn ⟨hst2.out.mf⟩)
      cases hiv : immB fs c.glob c.slots x s.i
      · have hu : Aside0 (isB c.regs fs c.glob c.slots preds blk x s = false) := ⟨by unfold isB; rw [hq, hdv, hiv]; rfl⟩
        rw [hiv] at hi
        go_wp2_with fail
        (with_reducible refine hi.out.mono ?_)
        rintro e w3 ⟨rfl, hb3⟩
        have hst3 := Aside0.mk (hst2.out.next hb3)
        clear hst2 hi hb3 a0 a1 a2 a3 a4 a5 a6 b0 b1 b2 b3 b4 b5
        go_wp2
        go_ret
        rw [hu.out]
        exact ⟨rfl, hst3.out.hB⟩
      · rw [hiv] at hi
        go_wp2_with fail
        (with_reducible refine hi.out.mono ?_)
        rintro e w3 ⟨rfl, hb3⟩
        have hst3 := Aside0.mk (hst2.out.next hb3)
        clear hst2 hi hb3 a0 a1 a2 a3 a4 a5 a6 b0 b1 b2 b3 b4 b5
        obtain ⟨⟨a0, a1, a2, a3, a4, a5, a6⟩, ⟨b0, b1, b2, b3, b4, b5⟩, -⟩ := hst3.out.cells
        have hun : Aside0 (isB c.regs fs c.glob c.slots preds blk x s = (!(decide (0 ≤ s.n) && (x.f2.length : Int) != s.n) && ((x.f2.all fun r => wi r 0 (c.regs - 1)) && (!(s.a != wi x.f4 1 19 || (!s.a && x.f4 != 0)) && (!((s.wd && x.f5 != 1 && x.f5 != 4) || (!s.wd && x.f5 != 0)) && (if s.p = true then (x.f2.length == x.f6.length && x.f6 == preds.getD blk []) else x.f6.length == 0)))))) := ⟨by unfold isB; rw [hq, hdv, hiv]; rfl⟩
        clear hq hdv hiv
        by_cases hx : 0 ≤ s.n ∧ (x.f2.length : Int) ≠ s.n
        · have hu : Aside0 (isB c.regs fs c.glob c.slots preds blk x s = false) := ⟨by rw [hun.out]; simp [hx.1, hx.2]⟩
          obtain ⟨hx1, hx2⟩ := hx
          have hx3 : ((x.f2.length : Int) == s.n) = false := by simpa using hx2
          have hx4 : ((x.f2.length : Int) != s.n) = true := by simpa using hx2
          clear hx2 hun
          go_wp2
          go_ret
          rw [hu.out]
          exact ⟨rfl, hst3.out.hB⟩
        · have hu : Aside0 (isB c.regs fs c.glob c.slots preds blk x s = ((x.f2.all fun r => wi r 0 (c.regs - 1)) && (!(s.a != wi x.f4 1 19 || (!s.a && x.f4 != 0)) && (!((s.wd && x.f5 != 1 && x.f5 != 4) || (!s.wd && x.f5 != 0)) && (if s.p = true then (x.f2.length == x.f6.length && x.f6 == preds.getD blk []) else x.f6.length == 0))))) := ⟨by
            rw [hun.out]
            have : (decide (0 ≤ s.n) && (x.f2.length : Int) != s.n) = false := by
              rw [← Bool.not_eq_true]
              intro h
              apply hx
              simpa using h
            rw [this]
            rfl⟩
          clear hun
          have hx : s.n < 0 ∨ (0 ≤ s.n ∧ ((x.f2.length : Int) == s.n) = true ∧ ((x.f2.length : Int) != s.n) = false) := by
            by_cases h : 0 ≤ s.n
            · have h2 : (x.f2.length : Int) = s.n := by
                rcases Int.lt_trichotomy (x.f2.length : Int) s.n with h3 | h3 | h3
                · exact absurd ⟨h, by omega⟩ hx
                · exact h3
                · exact absurd ⟨h, by omega⟩ hx
              exact .inr ⟨h, by simp [h2], by simp [h2]⟩
            · exact .inl (by omega)
          generalize hR : (!(s.a != wi x.f4 1 19 || (!s.a && x.f4 != 0)) && (!((s.wd && x.f5 != 1 && x.f5 != 4) || (!s.wd && x.f5 != 0)) && (if s.p = true then (x.f2.length == x.f6.length && x.f6 == preds.getD blk []) else x.f6.length == 0))) = R at *
          have hR := Aside0.mk hR
          have hrg := Aside0.mk (fun r => reg ⟨hst3.out.hg⟩ r h0 h1)
          rcases hx with hx | ⟨hx, hx2, hx3⟩
          all_goals
            go_wp2
            go_loop [51] (fun i => ∃ j : Nat, j ≤ x.f2.length ∧ i = .int .i64 j ∧ Aside0 (((x.f2.take j).all fun r => wi r 0 (c.regs - 1)) = true)) (fun i => x.f2.length - (intOf i).toNat)
            case atStart => exact ⟨0, by omega, rfl, ⟨rfl⟩⟩
            case round =>
              obtain ⟨j, hj, rfl, ht⟩ := hrel
              by_cases hlt2 : j < x.f2.length
              · obtain ⟨ad, e, q0⟩ := Kd.at_int hst3.out.m2 j (by omega) (by omega)
                cases e
                simp only [Int.toNat_natCast] at q0
                have hstp := all_take (p := fun t => wi t 0 (c.regs - 1)) hlt2
                have hno := all_no (p := fun t => wi t 0 (c.regs - 1)) hlt2
                have hqq := hrg.out (rd x.f2 j)
                generalize rd x.f2 (j : Int) = y at *
                try dsimp only at hstp hno
                cases hv : wi y 0 (c.regs - 1)
                · rw [hv] at hqq hno
                  have hend : Aside0 (isB c.regs fs c.glob c.slots preds blk x s = false) := ⟨by rw [hu.out, hno rfl]; rfl⟩
                  have hqq := Aside0.mk hqq
                  clear hstp hno hrg hu
                  go_wp2_with ((with_reducible refine hqq.out.mono ?_); rintro e w' ⟨rfl, rfl⟩)
                  go_ret
                  rw [hend.out]
                  exact ⟨rfl, hst3.out.hB⟩
                · rw [hv] at hqq hstp
                  have ht2 : Aside0 (((x.f2.take (j + 1)).all fun r => wi r 0 (c.regs - 1)) = true) := ⟨by rw [hstp, ht.out]; rfl⟩
                  have hqq := Aside0.mk hqq
                  clear hstp hno hrg ht hu
                  go_wp2_with ((with_reducible refine hqq.out.mono ?_); rintro e w' ⟨rfl, rfl⟩)
                  go_round
                  case rel => exact ⟨j + 1, by omega, by go_num, ht2⟩
                  case measure => simp [intOf]; omega
              · obtain rfl : j = x.f2.length := by omega
                have ht' := ht.out
                rw [List.take_length] at ht'
                have hend : Aside0 (isB c.regs fs c.glob c.slots preds blk x s = R) := ⟨by rw [hu.out, ht']; rfl⟩
                clear ht ht' hu hrg
                go_upto_region 10 with (fail)
                go_cut [75] (fun s75 wx => s75 = .bool (s.a != wi x.f4 1 19 || (!s.a && x.f4 != 0)) ∧ Aside0 (∃ n, wx = w3.drewN n))
                case first =>
                  have hwq := Aside0.mk (fun w => within x.f4 1 19 w)
                  clear hR
                  cases hsa : s.a
                  all_goals
                    cases hwa : wi x.f4 1 19
                  all_goals
                    rw [hwa] at hwq
                    rw [hsa] at b3
                    cases h40b : (x.f4 != 0)
                  all_goals
                    go_quiet ((go_at_call 25; exact Calls.quiet_of_same ((hwq.out _).mono fun _ _ h => ⟨h.1, h.2.symm⟩)))
                    go_wp2_with fail
                    go_meet
                    exact ⟨by rw [hsa, hwa, h40b]; rfl, ⟨_, rfl⟩⟩
                case rest =>
                  obtain ⟨rfl, hdr⟩ := hcut
                  obtain ⟨nd, rfl⟩ := hdr.out
                  have hst4 := Aside0.mk (hst3.out.next (bdn (Below.refl _ _) nd))
                  clear hst3 a0 a1 a2 a3 a4 a5 a6 b0 b1 b2 b3 b4 b5 hdr
                  generalize w3.drewN nd = w4 at *
                  obtain ⟨⟨a0, a1, a2, a3, a4, a5, a6⟩, ⟨b0, b1, b2, b3, b4, b5⟩, -⟩ := hst4.out.cells
                  generalize (s.a != wi x.f4 1 19 || (!s.a && x.f4 != 0)) = C at *
                  cases C
                  · go_upto_region 12 with (fail)
                    go_cut [97] (fun s97 wx => s97 = .bool ((s.wd && x.f5 != 1 && x.f5 != 4) || (!s.wd && x.f5 != 0)) ∧ w4 = wx)
                    case first =>
                      clear hR
                      cases hwd : s.wd
                      all_goals
                        rw [hwd] at b4
                        cases h51 : (x.f5 != 1)
                      all_goals
                        cases h54 : (x.f5 != 4)
                      all_goals
                        cases h50 : (x.f5 != 0)
                      all_goals
                        go_wp2_with fail
                        go_meet
                        exact ⟨by rw [hwd, h51, h54, h50]; rfl, rfl⟩
                    case rest =>
                      obtain ⟨rfl, rfl⟩ := hcut
                      generalize ((s.wd && x.f5 != 1 && x.f5 != 4) || (!s.wd && x.f5 != 0)) = D at *
                      cases D
                      · have hRu : Aside0 (R = (if s.p = true then (x.f2.length == x.f6.length && x.f6 == preds.getD blk []) else x.f6.length == 0)) := ⟨by rw [← hR.out]; rfl⟩
                        clear hR
                        have hc9 : w4.cell? ⟨g, 9, none⟩ = some (.slice A9 preds.length c9) := by rw [← hw9.out]; exact (blk_cell hst4.out.hg 9).trans rfl
                        obtain ⟨ad9, A9', c9', e9, q9, l9, m9⟩ := atL hst4.out.m9 blk hb
                        cases e9
                        have m9 := Aside0.mk m9
                        generalize preds.getD blk [] = pr at *
                        have hx6 : ((x.f6.length : Int) == 0) = (x.f6.length == 0) := by rw [Bool.eq_iff_iff]; simp
                        have hx6' := Aside0.mk hx6
                        clear hx6
                        cases hp : s.p
                        · have hRv : Aside0 (R = (x.f6.length == 0)) := ⟨by rw [hRu.out, hp]; rfl⟩
                          rw [hp] at b5
                          clear hRu
                          go_wp2
                          go_ret
                          rw [hend.out, hRv.out, ← hx6'.out]
                          exact ⟨rfl, hst4.out.hB⟩
                        · rw [hp] at b5
                          by_cases hlen : x.f2.length = x.f6.length
                          · have hRv : Aside0 (R = (x.f6 == pr)) := ⟨by rw [hRu.out, if_pos hp]; simp [hlen]⟩
                            have hl1 : ((x.f2.length : Int) == (x.f6.length : Int)) = true := by simp [hlen]
                            have hl2 : (x.f2.length == x.f6.length) = true := by simp [hlen]
                            clear hRu hlen
                            go_wp2
                            go_quiet ((go_at_call 40; exact Calls.quiet_of ((equal ⟨Kd.C_below hst4.out.m6 (bdn (Below.refl _ _) _)⟩ ⟨Kd.C_below m9.out (bdn (Below.refl _ _) _)⟩ l6 l9).mono fun _ _ h => ⟨h.1, h.2.out⟩)))
                            go_wp2
                            go_ret
                            rw [hend.out, hRv.out]
                            exact ⟨rfl, bdn hst4.out.hB _⟩
                          · have hRv : Aside0 (R = false) := ⟨by rw [hRu.out, if_pos hp]; simp [hlen]⟩
                            have hl1 : ((x.f2.length : Int) == (x.f6.length : Int)) = false := by simp; omega
                            have hl2 : (x.f2.length == x.f6.length) = false := by simp [hlen]
                            clear hRu hlen
                            go_wp2
                            go_quiet (fail)
                            go_wp2
                            go_ret
                            rw [hend.out, hRv.out]
                            exact ⟨rfl, bdn hst4.out.hB _⟩
                      · have hRf : Aside0 (R = false) := ⟨by rw [← hR.out]; rfl⟩
                        clear hR
                        go_wp2
                        go_ret
                        rw [hend.out, hRf.out]
                        exact ⟨rfl, hst4.out.hB⟩
                  · have hRf : Aside0 (R = false) := ⟨by rw [← hR.out]; rfl⟩
                    clear hR
                    go_wp2
                    go_ret
                    rw [hend.out, hRf.out]
                    exact ⟨rfl, hst4.out.hB⟩
end Go.Proofs.Ytobikiffjanagaa.IrA
end
section
namespace Go.Proofs.Ytobikiffjanagaa.Cpy
open Go.RowKit Go.Proofs.YtobikiffjanagaaW.PrintWords Go.Proofs.YtobikiffjanagaaW.PrintLast Go.Proofs.YtobikiffjanagaaW.PrintMore Go.Proofs.Ytobikiffjanagaa.PIrCopies
set_option linter.unusedVariables false
set_option linter.unusedSimpArgs false
abbrev fv (k : Nat) : Value := .func (.func k) #[] #[]
set_option maxHeartbeats 16000000 in
set_option maxRecDepth 100000 in
theorem alike_calls {w W : World} {x y : S44} {cs ds : List Value} (hx : k44.K w x cs) (hy : k44.K w y ds) (L : Below w.heap.size w W) :
    Calls Try.prog 42 #[.agg cs.toArray, .agg ds.toArray] W fun e w' => e = .returned (.bool (insE x y)) ∧ Below W.heap.size W w' := by
  obtain ⟨A2, c2, A6, c6, rfl, h2l, h2, h6l, h6⟩ := k44_open hx
  obtain ⟨B2, d2, B6, d6, rfl, g2l, g2, g6l, g6⟩ := k44_open hy
  clear hx hy
  have X0 := Aside0.mk (blk_alloc (blk_new W (iO x (.slice A2 x.f2.length c2) (.slice A6 x.f6.length c6))) (iO y (.slice B2 y.f2.length d2) (.slice B6 y.f6.length d6)))
  have Y0 : Aside0 (((W.alloc (iO x (.slice A2 x.f2.length c2) (.slice A6 x.f6.length c6))).alloc (iO y (.slice B2 y.f2.length d2) (.slice B6 y.f6.length d6))).heap[W.heap.size + 1]? = some (iO y (.slice B2 y.f2.length d2) (.slice B6 y.f6.length d6))) := ⟨by have := blk_new (W.alloc (iO x (.slice A2 x.f2.length c2) (.slice A6 x.f6.length c6))) (iO y (.slice B2 y.f2.length d2) (.slice B6 y.f6.length d6)); simpa using this⟩
  have LW : Aside0 (Below W.heap.size W ((W.alloc (iO x (.slice A2 x.f2.length c2) (.slice A6 x.f6.length c6))).alloc (iO y (.slice B2 y.f2.length d2) (.slice B6 y.f6.length d6)))) := ⟨below_alloc (below_alloc (Below.refl _ _) _) _⟩
  have L1 := Aside0.mk (below_step L LW.out)
  replace h2 := Aside0.mk (Kd.C_below h2 L1.out)
  replace h6 := Aside0.mk (Kd.C_below h6 L1.out)
  replace g2 := Aside0.mk (Kd.C_below g2 L1.out)
  replace g6 := Aside0.mk (Kd.C_below g6 L1.out)
  clear L L1
  have hE : Aside0 (insE x y = (x.f0 == y.f0 && (x.f1 == y.f1 && (x.f3 == y.f3 && (x.f4 == y.f4 && (x.f5 == y.f5 && (x.f2 == y.f2 && x.f6 == y.f6))))))) := ⟨rfl⟩
  go_enter Try.func42, Try.ntmps42
  go_upto_region 1 with (fail)
  generalize (W.alloc (iO x (.slice A2 x.f2.length c2) (.slice A6 x.f6.length c6))).alloc (iO y (.slice B2 y.f2.length d2) (.slice B6 y.f6.length d6)) = W1 at *
  have p0 := (blk_cell X0.out 0).trans (show _ = some (.int .i64 x.f0) from rfl)
  have p1 := (blk_cell X0.out 1).trans (show _ = some (.int .i64 x.f1) from rfl)
  have p2 := (blk_cell X0.out 2).trans (show _ = some (.slice A2 x.f2.length c2) from rfl)
  have p3 := (blk_cell X0.out 3).trans (show _ = some (.int .i32 x.f3) from rfl)
  have p4 := (blk_cell X0.out 4).trans (show _ = some (.int .i64 x.f4) from rfl)
  have p5 := (blk_cell X0.out 5).trans (show _ = some (.int .i64 x.f5) from rfl)
  have p6 := (blk_cell X0.out 6).trans (show _ = some (.slice A6 x.f6.length c6) from rfl)
  have q0 := (blk_cell Y0.out 0).trans (show _ = some (.int .i64 y.f0) from rfl)
  have q1 := (blk_cell Y0.out 1).trans (show _ = some (.int .i64 y.f1) from rfl)
  have q2 := (blk_cell Y0.out 2).trans (show _ = some (.slice B2 y.f2.length d2) from rfl)
  have q3 := (blk_cell Y0.out 3).trans (show _ = some (.int .i32 y.f3) from rfl)
  have q4 := (blk_cell Y0.out 4).trans (show _ = some (.int .i64 y.f4) from rfl)
  have q5 := (blk_cell Y0.out 5).trans (show _ = some (.int .i64 y.f5) from rfl)
  have q6 := (blk_cell Y0.out 6).trans (show _ = some (.slice B6 y.f6.length d6) from rfl)
  cases e_f0 : (x.f0 != y.f0)
  · skip
    cases e_f1 : (x.f1 != y.f1)
    · skip
      cases e_f3 : (x.f3 != y.f3)
      · skip
        cases e_f4 : (x.f4 != y.f4)
        · skip
          cases e_f5 : (x.f5 != y.f5)
          · skip
            have e2c : Aside0 ((x.f2 == y.f2) = (x.f2 == y.f2)) := ⟨rfl⟩
            cases e2 : (x.f2 == y.f2)
            · have hv : Aside0 (insE x y = false) := ⟨by rw [hE.out, show (x.f0 == y.f0) = true by simpa using e_f0, show (x.f1 == y.f1) = true by simpa using e_f1, show (x.f3 == y.f3) = true by simpa using e_f3, show (x.f4 == y.f4) = true by simpa using e_f4, show (x.f5 == y.f5) = true by simpa using e_f5, e2]; rfl⟩
              have hc := Aside0.mk (fun W' (hb : Drawn0 W1 W') => IrA.equal (w := W') ⟨Kd.C_below h2.out hb.below⟩ ⟨Kd.C_below g2.out hb.below⟩ h2l g2l)
              rw [e2] at hc
              clear e2c
              replace e2 := Aside0.mk e2
              go_wp2_with (go_at_call 40; (with_reducible refine (hc.out _ (Drawn0.refl _)).mono ?_); rintro e w2 ⟨rfl, ⟨nd, rfl⟩⟩)
              go_ret
              exact ⟨by rw [hv.out]; rfl, pw_below_drewN LW.out _⟩
            · have hv : Aside0 (insE x y = (x.f6 == y.f6)) := ⟨by rw [hE.out, show (x.f0 == y.f0) = true by simpa using e_f0, show (x.f1 == y.f1) = true by simpa using e_f1, show (x.f3 == y.f3) = true by simpa using e_f3, show (x.f4 == y.f4) = true by simpa using e_f4, show (x.f5 == y.f5) = true by simpa using e_f5, e2]; rfl⟩
              have hc := Aside0.mk (IrA.equal (w := W1) h2 g2 h2l g2l)
              rw [e2] at hc
              have hd := Aside0.mk (fun nd => IrA.equal (w := W1.drewN nd) ⟨Kd.C_drewN h6.out nd⟩ ⟨Kd.C_drewN g6.out nd⟩ h6l g6l)
              clear e2c
              replace e2 := Aside0.mk e2
              go_wp2_with (first | (go_at_call 40; (with_reducible refine hc.out.mono ?_); rintro e w2 ⟨rfl, ⟨nd, rfl⟩⟩; clear hc) | (go_at_call 40; (with_reducible refine (hd.out _).mono ?_); rintro e w3 ⟨rfl, ⟨ne, rfl⟩⟩))
              go_ret
              exact ⟨by rw [hv.out]; rfl, pw_below_drewN LW.out _⟩
          · have hv : Aside0 (insE x y = false) := ⟨by rw [hE.out, show (x.f0 == y.f0) = true by simpa using e_f0, show (x.f1 == y.f1) = true by simpa using e_f1, show (x.f3 == y.f3) = true by simpa using e_f3, show (x.f4 == y.f4) = true by simpa using e_f4, show (x.f5 == y.f5) = false by simpa using e_f5]; simp⟩
            go_wp2_with fail
            go_ret
            exact ⟨by rw [hv.out]; rfl, LW.out⟩
        · have hv : Aside0 (insE x y = false) := ⟨by rw [hE.out, show (x.f0 == y.f0) = true by simpa using e_f0, show (x.f1 == y.f1) = true by simpa using e_f1, show (x.f3 == y.f3) = true by simpa using e_f3, show (x.f4 == y.f4) = false by simpa using e_f4]; simp⟩
          go_wp2_with fail
          go_ret
          exact ⟨by rw [hv.out]; rfl, LW.out⟩
      · have hv : Aside0 (insE x y = false) := ⟨by rw [hE.out, show (x.f0 == y.f0) = true by simpa using e_f0, show (x.f1 == y.f1) = true by simpa using e_f1, show (x.f3 == y.f3) = false by simpa using e_f3]; simp⟩
        go_wp2_with fail
        go_ret
        exact ⟨by rw [hv.out]; rfl, LW.out⟩
    · have hv : Aside0 (insE x y = false) := ⟨by rw [hE.out, show (x.f0 == y.f0) = true by simpa using e_f0, show (x.f1 == y.f1) = false by simpa using e_f1]; simp⟩
      go_wp2_with fail
      go_ret
      exact ⟨by rw [hv.out]; rfl, LW.out⟩
  · have hv : Aside0 (insE x y = false) := ⟨by rw [hE.out, show (x.f0 == y.f0) = false by simpa using e_f0]; simp⟩
    go_wp2_with fail
    go_ret
    exact ⟨by rw [hv.out]; rfl, LW.out⟩
set_option maxHeartbeats 16000000 in
set_option maxRecDepth 100000 in
theorem eqf41 {w W0 : World} {A B : Option Addr} {c d : Nat} {xs ys : List S44} (hx : k44.C w A xs.length xs) (lx : xs.length ≤ c) (hy : k44.C w B ys.length ys) (ly : ys.length ≤ d) (L : Below w.heap.size w W0) :
    Calls Try.prog 41 #[.slice A xs.length c, .slice B ys.length d, fv 42] W0 fun e w' => e = .returned (.bool (lsE insE xs ys)) ∧ Below W0.heap.size W0 w' := by
  have hb := Kd.C_max hx
  replace hx := Aside0.mk hx
  replace hy := Aside0.mk hy
  replace L := Aside0.mk L
  by_cases hl : xs.length = ys.length
  · have e0 : ((xs.length : Int) != (ys.length : Int)) = false := bne_eq_false_iff_eq.2 (by omega)
    have hd0 : Aside0 (lsE insE xs ys = lsE insE (xs.drop 0) (ys.drop 0)) := ⟨by rw [List.drop_zero, List.drop_zero]⟩
    obtain ⟨ny, hny⟩ : ∃ ny, ys.length = ny := ⟨_, rfl⟩
    rw [hny] at hl e0 hy
    rw [hny]
    replace hny := Aside0.mk hny
    replace hl := Aside0.mk hl
    go_enter Try.func41, Try.ntmps41
    go_wp2_with fail
    go_loopw [17] (fun u17 wr => ∃ i : Nat, i ≤ xs.length ∧ u17 = .int .i64 i ∧ Aside0 (Below W0.heap.size W0 wr) ∧ Aside0 (lsE insE xs ys = lsE insE (xs.drop i) (ys.drop i))) (fun u _ => xs.length - (intOf u).toNat)
    case atStart => exact ⟨0, Nat.zero_le _, rfl, ⟨Below.refl _ _⟩, hd0⟩
    case round =>
      clear hd0
      obtain ⟨i, hi, rfl, LW, hd⟩ := hrel
      by_cases hlt : i < xs.length
      · have q0 : (0 : Int) ≤ (i : Int) := by omega
        have q1 : (i : Int) < (xs.length : Int) := by omega
        have q2 : (i : Int) < (ny : Int) := by have := hl.out; omega
        have hiy : Aside0 (i < ys.length) := ⟨by have := hl.out; have := hny.out; omega⟩
        have L1 := Aside0.mk (below_step L.out LW.out)
        obtain ⟨ad, cs, ea, hcl, hKx, hcx⟩ := Kd.C_get (Kd.C_below hx.out L1.out) z44 (i : Int) q0 q1
        obtain ⟨bd, ds, eb, hdl, hKy, hcy⟩ := Kd.C_get (Kd.C_below hy.out L1.out) z44 (i : Int) q0 (by omega)
        subst ea
        subst eb
        rw [Int.toNat_natCast] at hKx hKy
        simp only [Int.toNat_natCast, show k44.sz = 7 from rfl] at hcx hcy
        have hstep := Aside0.mk (lsE_drop (p := insE) z44 i hlt hiy.out)
        generalize xs.getD i z44 = x at *
        generalize ys.getD i z44 = y at *
        have hal := fun W (LL : Below wr.heap.size wr W) => alike_calls hKx hKy LL
        obtain ⟨A2, c2, A6, c6, rfl, h2l, h2, h6l, h6⟩ := k44_open hKx
        obtain ⟨B2, d2, B6, d6, rfl, g2l, g2, g6l, g6⟩ := k44_open hKy
        replace hal := Aside0.mk hal
        clear hKx hKy hcl hdl
        have x0 := hcx 0 _ rfl
        have y0 := hcy 0 _ rfl
        rw [Nat.add_zero] at x0 y0
        have x1 := hcx 1 _ rfl
        have y1 := hcy 1 _ rfl
        rw [add_field _ _ 1 (by omega)] at x1 y1
        have x2 := hcx 2 _ rfl
        have y2 := hcy 2 _ rfl
        rw [add_field _ _ 2 (by omega)] at x2 y2
        have x3 := hcx 3 _ rfl
        have y3 := hcy 3 _ rfl
        rw [add_field _ _ 3 (by omega)] at x3 y3
        have x4 := hcx 4 _ rfl
        have y4 := hcy 4 _ rfl
        rw [add_field _ _ 4 (by omega)] at x4 y4
        have x5 := hcx 5 _ rfl
        have y5 := hcy 5 _ rfl
        rw [add_field _ _ 5 (by omega)] at x5 y5
        have x6 := hcx 6 _ rfl
        have y6 := hcy 6 _ rfl
        rw [add_field _ _ 6 (by omega)] at x6 y6
        clear hcx hcy
        have X0 := Aside0.mk (blk_new wr (.cells #[.int .i64 x.f0, .int .i64 x.f1, .slice A2 x.f2.length c2, .int .i32 x.f3, .int .i64 x.f4, .int .i64 x.f5, .slice A6 x.f6.length c6] 44))
        have LX : Aside0 (Below wr.heap.size wr (wr.alloc (.cells #[.int .i64 x.f0, .int .i64 x.f1, .slice A2 x.f2.length c2, .int .i32 x.f3, .int .i64 x.f4, .int .i64 x.f5, .slice A6 x.f6.length c6] 44))) := ⟨below_alloc (Below.refl _ _) _⟩
        go_upto_region 6 with (fail)
        clear x0 x1 x2 x3 x4 x5 x6
        replace y0 := (LX.out.cell (World.block_lt_of_cell? _ _ y0)).trans y0
        replace y1 := (LX.out.cell (World.block_lt_of_cell? _ _ y1)).trans y1
        replace y2 := (LX.out.cell (World.block_lt_of_cell? _ _ y2)).trans y2
        replace y3 := (LX.out.cell (World.block_lt_of_cell? _ _ y3)).trans y3
        replace y4 := (LX.out.cell (World.block_lt_of_cell? _ _ y4)).trans y4
        replace y5 := (LX.out.cell (World.block_lt_of_cell? _ _ y5)).trans y5
        replace y6 := (LX.out.cell (World.block_lt_of_cell? _ _ y6)).trans y6
        generalize wr.alloc (.cells #[.int .i64 x.f0, .int .i64 x.f1, .slice A2 x.f2.length c2, .int .i32 x.f3, .int .i64 x.f4, .int .i64 x.f5, .slice A6 x.f6.length c6] 44) = W1 at *
        replace X0 := Aside0.mk (blk_alloc X0.out (.cells #[.int .i64 y.f0, .int .i64 y.f1, .slice B2 y.f2.length d2, .int .i32 y.f3, .int .i64 y.f4, .int .i64 y.f5, .slice B6 y.f6.length d6] 44))
        have Y0 := Aside0.mk (blk_new W1 (.cells #[.int .i64 y.f0, .int .i64 y.f1, .slice B2 y.f2.length d2, .int .i32 y.f3, .int .i64 y.f4, .int .i64 y.f5, .slice B6 y.f6.length d6] 44))
        replace LX : Aside0 (Below wr.heap.size wr (W1.alloc (.cells #[.int .i64 y.f0, .int .i64 y.f1, .slice B2 y.f2.length d2, .int .i32 y.f3, .int .i64 y.f4, .int .i64 y.f5, .slice B6 y.f6.length d6] 44))) := ⟨below_alloc LX.out _⟩
        go_upto_region 7 with (fail)
        clear y0 y1 y2 y3 y4 y5 y6
        generalize W1.alloc (.cells #[.int .i64 y.f0, .int .i64 y.f1, .slice B2 y.f2.length d2, .int .i32 y.f3, .int .i64 y.f4, .int .i64 y.f5, .slice B6 y.f6.length d6] 44) = W2 at *
        generalize W1.heap.size = yb at *
        have p0 := (blk_cell X0.out 0).trans (show _ = some (.int .i64 x.f0) from rfl)
        have p1 := (blk_cell X0.out 1).trans (show _ = some (.int .i64 x.f1) from rfl)
        have p2 := (blk_cell X0.out 2).trans (show _ = some (.slice A2 x.f2.length c2) from rfl)
        have p3 := (blk_cell X0.out 3).trans (show _ = some (.int .i32 x.f3) from rfl)
        have p4 := (blk_cell X0.out 4).trans (show _ = some (.int .i64 x.f4) from rfl)
        have p5 := (blk_cell X0.out 5).trans (show _ = some (.int .i64 x.f5) from rfl)
        have p6 := (blk_cell X0.out 6).trans (show _ = some (.slice A6 x.f6.length c6) from rfl)
        have r0 := (blk_cell Y0.out 0).trans (show _ = some (.int .i64 y.f0) from rfl)
        have r1 := (blk_cell Y0.out 1).trans (show _ = some (.int .i64 y.f1) from rfl)
        have r2 := (blk_cell Y0.out 2).trans (show _ = some (.slice B2 y.f2.length d2) from rfl)
        have r3 := (blk_cell Y0.out 3).trans (show _ = some (.int .i32 y.f3) from rfl)
        have r4 := (blk_cell Y0.out 4).trans (show _ = some (.int .i64 y.f4) from rfl)
        have r5 := (blk_cell Y0.out 5).trans (show _ = some (.int .i64 y.f5) from rfl)
        have r6 := (blk_cell Y0.out 6).trans (show _ = some (.slice B6 y.f6.length d6) from rfl)
        cases hp : insE x y
        · have hv : Aside0 (lsE insE xs ys = false) := ⟨by rw [hd.out, hstep.out, hp]; rfl⟩
          rw [hp] at hal
          replace hp := Aside0.mk hp
          go_wp2_with (go_at_call 42; (with_reducible refine (hal.out _ LX.out).mono ?_); rintro e w2 ⟨rfl, hb2⟩; replace hb2 := Aside0.mk hb2)
          go_ret
          exact ⟨by rw [hv.out]; rfl, below_step LW.out (below_step LX.out hb2.out)⟩
        · have hv : Aside0 (lsE insE xs ys = lsE insE (xs.drop (i + 1)) (ys.drop (i + 1))) := ⟨by rw [hd.out, hstep.out, hp]; rfl⟩
          rw [hp] at hal
          replace hp := Aside0.mk hp
          have hiw : IntKind.i64.wrap ((i : Int) + 1) = (i : Int) + 1 := IntWalk.i64_in _ (by omega)
          go_wp2_with (go_at_call 42; (with_reducible refine (hal.out _ LX.out).mono ?_); rintro e w2 ⟨rfl, hb2⟩; replace hb2 := Aside0.mk (below_step LW.out (below_step LX.out hb2)))
          go_roundw
          case rel => exact ⟨i + 1, by omega, by go_num, hb2, hv⟩
          case measure => simp [intOf]; omega
      · obtain rfl : i = xs.length := by omega
        have hv : Aside0 (lsE insE xs ys = true) := ⟨by rw [hd.out, List.drop_length, List.drop_of_length_le (by have := hl.out; have := hny.out; omega)]; rfl⟩
        go_wp2_with fail
        go_ret
        exact ⟨by rw [hv.out]; rfl, LW.out⟩
  · have e0 : ((xs.length : Int) != (ys.length : Int)) = true := bne_iff_ne.2 (by omega)
    have hv : Aside0 (lsE insE xs ys = false) := ⟨lsE_no hl⟩
    replace hl := Aside0.mk hl
    go_enter Try.func41, Try.ntmps41
    go_wp2_with fail
    go_ret
    exact ⟨by rw [hv.out]; rfl, Below.refl _ _⟩
set_option maxHeartbeats 16000000 in
set_option maxRecDepth 100000 in
theorem same1_calls {w W : World} {x y : S58} {cs ds : List Value} (hx : k58.K w x cs) (hy : k58.K w y ds) (L : Below w.heap.size w W) :
    Calls Try.prog 39 #[.agg cs.toArray, .agg ds.toArray] W fun e w' => e = .returned (.bool (blkE x y)) ∧ Below W.heap.size W w' := by
  obtain ⟨A0, c0, A3, c3, rfl, h0l, h0, h3l, h3⟩ := k58_open hx
  obtain ⟨B0, d0, B3, d3, rfl, g0l, g0, g3l, g3⟩ := k58_open hy
  clear hx hy
  have X0 := Aside0.mk (blk_alloc (blk_new W (bO (.slice A0 x.f0.length c0) x.f1 x.f2 (.slice A3 x.f3.length c3))) (bO (.slice B0 y.f0.length d0) y.f1 y.f2 (.slice B3 y.f3.length d3)))
  have Y0 : Aside0 (((W.alloc (bO (.slice A0 x.f0.length c0) x.f1 x.f2 (.slice A3 x.f3.length c3))).alloc (bO (.slice B0 y.f0.length d0) y.f1 y.f2 (.slice B3 y.f3.length d3))).heap[W.heap.size + 1]? = some (bO (.slice B0 y.f0.length d0) y.f1 y.f2 (.slice B3 y.f3.length d3))) := ⟨by have := blk_new (W.alloc (bO (.slice A0 x.f0.length c0) x.f1 x.f2 (.slice A3 x.f3.length c3))) (bO (.slice B0 y.f0.length d0) y.f1 y.f2 (.slice B3 y.f3.length d3)); simpa using this⟩
  have LW : Aside0 (Below W.heap.size W ((W.alloc (bO (.slice A0 x.f0.length c0) x.f1 x.f2 (.slice A3 x.f3.length c3))).alloc (bO (.slice B0 y.f0.length d0) y.f1 y.f2 (.slice B3 y.f3.length d3)))) := ⟨below_alloc (below_alloc (Below.refl _ _) _) _⟩
  have L1 := Aside0.mk (below_step L LW.out)
  replace h0 := Aside0.mk (Kd.C_below h0 L1.out)
  replace h3 := Aside0.mk (Kd.C_below h3 L1.out)
  replace g0 := Aside0.mk (Kd.C_below g0 L1.out)
  replace g3 := Aside0.mk (Kd.C_below g3 L1.out)
  clear L L1
  have hE : Aside0 (blkE x y = (x.f1 == y.f1 && (x.f2 == y.f2 && (x.f3 == y.f3 && lsE insE x.f0 y.f0)))) := ⟨rfl⟩
  go_enter Try.func39, Try.ntmps39
  go_upto_region 1 with (fail)
  generalize (W.alloc (bO (.slice A0 x.f0.length c0) x.f1 x.f2 (.slice A3 x.f3.length c3))).alloc (bO (.slice B0 y.f0.length d0) y.f1 y.f2 (.slice B3 y.f3.length d3)) = W1 at *
  generalize W.heap.size + 1 = yb at *
  have p0 := (blk_cell X0.out 0).trans (show _ = some (.slice A0 x.f0.length c0) from rfl)
  have p1 := (blk_cell X0.out 1).trans (show _ = some (.int .i64 x.f1) from rfl)
  have p2 := (blk_cell X0.out 2).trans (show _ = some (.int .i64 x.f2) from rfl)
  have p3 := (blk_cell X0.out 3).trans (show _ = some (.slice A3 x.f3.length c3) from rfl)
  have q0 := (blk_cell Y0.out 0).trans (show _ = some (.slice B0 y.f0.length d0) from rfl)
  have q1 := (blk_cell Y0.out 1).trans (show _ = some (.int .i64 y.f1) from rfl)
  have q2 := (blk_cell Y0.out 2).trans (show _ = some (.int .i64 y.f2) from rfl)
  have q3 := (blk_cell Y0.out 3).trans (show _ = some (.slice B3 y.f3.length d3) from rfl)
  cases e_f1 : (x.f1 == y.f1)
  · have hv : Aside0 (blkE x y = false) := ⟨by rw [hE.out, e_f1]; rfl⟩
    go_wp2_with fail
    go_ret
    exact ⟨by rw [hv.out]; rfl, LW.out⟩
  · cases e_f2 : (x.f2 == y.f2)
    · have hv : Aside0 (blkE x y = false) := ⟨by rw [hE.out, e_f1, e_f2]; rfl⟩
      go_wp2_with fail
      go_ret
      exact ⟨by rw [hv.out]; rfl, LW.out⟩
    · have hc := Aside0.mk (IrA.equal (w := W1) h3 g3 h3l g3l)
      cases e3 : (x.f3 == y.f3)
      · have hv : Aside0 (blkE x y = false) := ⟨by rw [hE.out, e_f1, e_f2, e3]; rfl⟩
        rw [e3] at hc
        replace e3 := Aside0.mk e3
        go_wp2_with (go_at_call 40; (with_reducible refine hc.out.mono ?_); rintro e w2 ⟨rfl, ⟨nd, rfl⟩⟩)
        go_ret
        exact ⟨by rw [hv.out]; rfl, pw_below_drewN LW.out _⟩
      · have hv : Aside0 (blkE x y = lsE insE x.f0 y.f0) := ⟨by rw [hE.out, e_f1, e_f2, e3]; rfl⟩
        rw [e3] at hc
        replace e3 := Aside0.mk e3
        have hd := Aside0.mk (fun nd => eqf41 (w := W1) (W0 := W1.drewN nd) h0.out h0l g0.out g0l (pw_below_drewN (Below.refl _ _) nd))
        go_wp2_with (first | (go_at_call 40; (with_reducible refine hc.out.mono ?_); rintro e w2 ⟨rfl, ⟨nd, rfl⟩⟩; clear hc) | (go_at_call 41; (with_reducible refine (hd.out _).mono ?_); rintro e w3 ⟨rfl, hb3⟩; replace hb3 := Aside0.mk (below_step (pw_below_drewN LW.out _) hb3)))
        go_ret
        exact ⟨by rw [hv.out]; rfl, hb3.out⟩
set_option maxHeartbeats 16000000 in
set_option maxRecDepth 100000 in
theorem eqf38 {w W0 : World} {A B : Option Addr} {c d : Nat} {xs ys : List S58} (hx : k58.C w A xs.length xs) (lx : xs.length ≤ c) (hy : k58.C w B ys.length ys) (ly : ys.length ≤ d) (L : Below w.heap.size w W0) :
    Calls Try.prog 38 #[.slice A xs.length c, .slice B ys.length d, fv 39] W0 fun e w' => e = .returned (.bool (lsE blkE xs ys)) ∧ Below W0.heap.size W0 w' := by
  have hb := Kd.C_max hx
  replace hx := Aside0.mk hx
  replace hy := Aside0.mk hy
  replace L := Aside0.mk L
  by_cases hl : xs.length = ys.length
  · have e0 : ((xs.length : Int) != (ys.length : Int)) = false := bne_eq_false_iff_eq.2 (by omega)
    have hd0 : Aside0 (lsE blkE xs ys = lsE blkE (xs.drop 0) (ys.drop 0)) := ⟨by rw [List.drop_zero, List.drop_zero]⟩
    obtain ⟨ny, hny⟩ : ∃ ny, ys.length = ny := ⟨_, rfl⟩
    rw [hny] at hl e0 hy
    rw [hny]
    replace hny := Aside0.mk hny
    replace hl := Aside0.mk hl
    go_enter Try.func38, Try.ntmps38
    go_wp2_with fail
    go_loopw [17] (fun u17 wr => ∃ i : Nat, i ≤ xs.length ∧ u17 = .int .i64 i ∧ Aside0 (Below W0.heap.size W0 wr) ∧ Aside0 (lsE blkE xs ys = lsE blkE (xs.drop i) (ys.drop i))) (fun u _ => xs.length - (intOf u).toNat)
    case atStart => exact ⟨0, Nat.zero_le _, rfl, ⟨Below.refl _ _⟩, hd0⟩
    case round =>
      clear hd0
      obtain ⟨i, hi, rfl, LW, hd⟩ := hrel
      by_cases hlt : i < xs.length
      · have q0 : (0 : Int) ≤ (i : Int) := by omega
        have q1 : (i : Int) < (xs.length : Int) := by omega
        have q2 : (i : Int) < (ny : Int) := by have := hl.out; omega
        have hiy : Aside0 (i < ys.length) := ⟨by have := hl.out; have := hny.out; omega⟩
        have L1 := Aside0.mk (below_step L.out LW.out)
        obtain ⟨ad, cs, ea, hcl, hKx, hcx⟩ := Kd.C_get (Kd.C_below hx.out L1.out) z58 (i : Int) q0 q1
        obtain ⟨bd, ds, eb, hdl, hKy, hcy⟩ := Kd.C_get (Kd.C_below hy.out L1.out) z58 (i : Int) q0 (by omega)
        subst ea
        subst eb
        rw [Int.toNat_natCast] at hKx hKy
        simp only [Int.toNat_natCast, show k58.sz = 4 from rfl] at hcx hcy
        have hstep := Aside0.mk (lsE_drop (p := blkE) z58 i hlt hiy.out)
        generalize xs.getD i z58 = x at *
        generalize ys.getD i z58 = y at *
        have hal := fun W (LL : Below wr.heap.size wr W) => same1_calls hKx hKy LL
        obtain ⟨A0, c0, A3, c3, rfl, h0l, h0, h3l, h3⟩ := k58_open hKx
        obtain ⟨B0, d0, B3, d3, rfl, g0l, g0, g3l, g3⟩ := k58_open hKy
        replace hal := Aside0.mk hal
        clear hKx hKy hcl hdl
        have x0 := hcx 0 _ rfl
        have y0 := hcy 0 _ rfl
        rw [Nat.add_zero] at x0 y0
        have x1 := hcx 1 _ rfl
        have y1 := hcy 1 _ rfl
        rw [add_field _ _ 1 (by omega)] at x1 y1
        have x2 := hcx 2 _ rfl
        have y2 := hcy 2 _ rfl
        rw [add_field _ _ 2 (by omega)] at x2 y2
        have x3 := hcx 3 _ rfl
        have y3 := hcy 3 _ rfl
        rw [add_field _ _ 3 (by omega)] at x3 y3
        clear hcx hcy
        have X0 := Aside0.mk (blk_new wr (.cells #[.slice A0 x.f0.length c0, .int .i64 x.f1, .int .i64 x.f2, .slice A3 x.f3.length c3] 58))
        have LX : Aside0 (Below wr.heap.size wr (wr.alloc (.cells #[.slice A0 x.f0.length c0, .int .i64 x.f1, .int .i64 x.f2, .slice A3 x.f3.length c3] 58))) := ⟨below_alloc (Below.refl _ _) _⟩
        go_upto_region 6 with (fail)
        clear x0 x1 x2 x3
        replace y0 := (LX.out.cell (World.block_lt_of_cell? _ _ y0)).trans y0
        replace y1 := (LX.out.cell (World.block_lt_of_cell? _ _ y1)).trans y1
        replace y2 := (LX.out.cell (World.block_lt_of_cell? _ _ y2)).trans y2
        replace y3 := (LX.out.cell (World.block_lt_of_cell? _ _ y3)).trans y3
        generalize wr.alloc (.cells #[.slice A0 x.f0.length c0, .int .i64 x.f1, .int .i64 x.f2, .slice A3 x.f3.length c3] 58) = W1 at *
        replace X0 := Aside0.mk (blk_alloc X0.out (.cells #[.slice B0 y.f0.length d0, .int .i64 y.f1, .int .i64 y.f2, .slice B3 y.f3.length d3] 58))
        have Y0 := Aside0.mk (blk_new W1 (.cells #[.slice B0 y.f0.length d0, .int .i64 y.f1, .int .i64 y.f2, .slice B3 y.f3.length d3] 58))
        replace LX : Aside0 (Below wr.heap.size wr (W1.alloc (.cells #[.slice B0 y.f0.length d0, .int .i64 y.f1, .int .i64 y.f2, .slice B3 y.f3.length d3] 58))) := ⟨below_alloc LX.out _⟩
        go_upto_region 7 with (fail)
        clear y0 y1 y2 y3
        generalize W1.alloc (.cells #[.slice B0 y.f0.length d0, .int .i64 y.f1, .int .i64 y.f2, .slice B3 y.f3.length d3] 58) = W2 at *
        generalize W1.heap.size = yb at *
        have p0 := (blk_cell X0.out 0).trans (show _ = some (.slice A0 x.f0.length c0) from rfl)
        have p1 := (blk_cell X0.out 1).trans (show _ = some (.int .i64 x.f1) from rfl)
        have p2 := (blk_cell X0.out 2).trans (show _ = some (.int .i64 x.f2) from rfl)
        have p3 := (blk_cell X0.out 3).trans (show _ = some (.slice A3 x.f3.length c3) from rfl)
        have r0 := (blk_cell Y0.out 0).trans (show _ = some (.slice B0 y.f0.length d0) from rfl)
        have r1 := (blk_cell Y0.out 1).trans (show _ = some (.int .i64 y.f1) from rfl)
        have r2 := (blk_cell Y0.out 2).trans (show _ = some (.int .i64 y.f2) from rfl)
        have r3 := (blk_cell Y0.out 3).trans (show _ = some (.slice B3 y.f3.length d3) from rfl)
        cases hp : blkE x y
        · have hv : Aside0 (lsE blkE xs ys = false) := ⟨by rw [hd.out, hstep.out, hp]; rfl⟩
          rw [hp] at hal
          replace hp := Aside0.mk hp
          go_wp2_with (go_at_call 39; (with_reducible refine (hal.out _ LX.out).mono ?_); rintro e w2 ⟨rfl, hb2⟩; replace hb2 := Aside0.mk hb2)
          go_ret
          exact ⟨by rw [hv.out]; rfl, below_step LW.out (below_step LX.out hb2.out)⟩
        · have hv : Aside0 (lsE blkE xs ys = lsE blkE (xs.drop (i + 1)) (ys.drop (i + 1))) := ⟨by rw [hd.out, hstep.out, hp]; rfl⟩
          rw [hp] at hal
          replace hp := Aside0.mk hp
          have hiw : IntKind.i64.wrap ((i : Int) + 1) = (i : Int) + 1 := IntWalk.i64_in _ (by omega)
          go_wp2_with (go_at_call 39; (with_reducible refine (hal.out _ LX.out).mono ?_); rintro e w2 ⟨rfl, hb2⟩; replace hb2 := Aside0.mk (below_step LW.out (below_step LX.out hb2)))
          go_roundw
          case rel => exact ⟨i + 1, by omega, by go_num, hb2, hv⟩
          case measure => simp [intOf]; omega
      · obtain rfl : i = xs.length := by omega
        have hv : Aside0 (lsE blkE xs ys = true) := ⟨by rw [hd.out, List.drop_length, List.drop_of_length_le (by have := hl.out; have := hny.out; omega)]; rfl⟩
        go_wp2_with fail
        go_ret
        exact ⟨by rw [hv.out]; rfl, LW.out⟩
  · have e0 : ((xs.length : Int) != (ys.length : Int)) = true := bne_iff_ne.2 (by omega)
    have hv : Aside0 (lsE blkE xs ys = false) := ⟨lsE_no hl⟩
    replace hl := Aside0.mk hl
    go_enter Try.func38, Try.ntmps38
    go_wp2_with fail
    go_ret
    exact ⟨by rw [hv.out]; rfl, Below.refl _ _⟩
end Go.Proofs.Ytobikiffjanagaa.Cpy
end
section
namespace Go.Proofs.Ytobikiffjanagaa.Cpy
open Go.RowKit Go.Proofs.YtobikiffjanagaaW.PrintWords Go.Proofs.YtobikiffjanagaaW.PrintLast Go.Proofs.YtobikiffjanagaaW.PrintMore Go.Proofs.Ytobikiffjanagaa.PIrCopies
set_option linter.unusedVariables false
set_option linter.unusedSimpArgs false
set_option maxHeartbeats 16000000 in
set_option maxRecDepth 100000 in
theorem same_calls {w : World} {x y : S33} {A B : Option Addr} {c d : Nat} (hx : k58.C w A x.f4.length x.f4) (lx : x.f4.length ≤ c) (hy : k58.C w B y.f4.length y.f4) (ly : y.f4.length ≤ d) :
    Calls Try.prog 23 #[agF x (.slice A x.f4.length c), agF y (.slice B y.f4.length d)] w fun e w' => e = .returned (.bool (funE x y)) ∧ Below w.heap.size w w' := by
  have X0 := Aside0.mk (blk_alloc (blk_new w (fO x (.slice A x.f4.length c))) (fO y (.slice B y.f4.length d)))
  have Y0 : Aside0 (((w.alloc (fO x (.slice A x.f4.length c))).alloc (fO y (.slice B y.f4.length d))).heap[w.heap.size + 1]? = some (fO y (.slice B y.f4.length d))) := ⟨by have := blk_new (w.alloc (fO x (.slice A x.f4.length c))) (fO y (.slice B y.f4.length d)); simpa using this⟩
  have LW : Aside0 (Below w.heap.size w ((w.alloc (fO x (.slice A x.f4.length c))).alloc (fO y (.slice B y.f4.length d)))) := ⟨below_alloc (below_alloc (Below.refl _ _) _) _⟩
  replace hx := Aside0.mk (Kd.C_below hx LW.out)
  replace hy := Aside0.mk (Kd.C_below hy LW.out)
  have hE : Aside0 (funE x y = (x.f0.toList == y.f0.toList && (x.f1 == y.f1 && (x.f2 == y.f2 && (x.f3 == y.f3 && lsE blkE x.f4 y.f4))))) := ⟨rfl⟩
  go_enter Try.func23, Try.ntmps23
  go_upto_region 1 with (fail)
  generalize (w.alloc (fO x (.slice A x.f4.length c))).alloc (fO y (.slice B y.f4.length d)) = W1 at *
  generalize w.heap.size + 1 = yb at *
  have p0 := (blk_cell X0.out 0).trans (show _ = some (.string x.f0) from rfl)
  have p1 := (blk_cell X0.out 1).trans (show _ = some (.int .i64 x.f1) from rfl)
  have p2 := (blk_cell X0.out 2).trans (show _ = some (.int .i64 x.f2) from rfl)
  have p3 := (blk_cell X0.out 3).trans (show _ = some (.int .i64 x.f3) from rfl)
  have p4 := (blk_cell X0.out 4).trans (show _ = some (.slice A x.f4.length c) from rfl)
  have q0 := (blk_cell Y0.out 0).trans (show _ = some (.string y.f0) from rfl)
  have q1 := (blk_cell Y0.out 1).trans (show _ = some (.int .i64 y.f1) from rfl)
  have q2 := (blk_cell Y0.out 2).trans (show _ = some (.int .i64 y.f2) from rfl)
  have q3 := (blk_cell Y0.out 3).trans (show _ = some (.int .i64 y.f3) from rfl)
  have q4 := (blk_cell Y0.out 4).trans (show _ = some (.slice B y.f4.length d) from rfl)
  by_cases e_f0 : x.f0.toList = y.f0.toList
  · skip
    cases e_f1 : (x.f1 != y.f1)
    · skip
      cases e_f2 : (x.f2 != y.f2)
      · skip
        cases e_f3 : (x.f3 != y.f3)
        · skip
          have hv : Aside0 (funE x y = lsE blkE x.f4 y.f4) := ⟨by rw [hE.out, show (x.f0.toList == y.f0.toList) = true from beq_iff_eq.2 e_f0, show (x.f1 == y.f1) = true by simpa using e_f1, show (x.f2 == y.f2) = true by simpa using e_f2, show (x.f3 == y.f3) = true by simpa using e_f3]; rfl⟩
          have hd := Aside0.mk (eqf38 (w := W1) (W0 := W1) hx.out lx hy.out ly (Below.refl _ _))
          go_wp2_with (go_at_call 38; (with_reducible refine hd.out.mono ?_); rintro e w3 ⟨rfl, hb3⟩; replace hb3 := Aside0.mk (below_step LW.out hb3))
          go_ret
          exact ⟨by rw [hv.out]; rfl, hb3.out⟩
        · have hv : Aside0 (funE x y = false) := ⟨by rw [hE.out, show (x.f0.toList == y.f0.toList) = true from beq_iff_eq.2 e_f0, show (x.f1 == y.f1) = true by simpa using e_f1, show (x.f2 == y.f2) = true by simpa using e_f2, show (x.f3 == y.f3) = false by simpa using e_f3]; simp⟩
          go_wp2_with fail
          go_ret
          exact ⟨by rw [hv.out]; rfl, LW.out⟩
      · have hv : Aside0 (funE x y = false) := ⟨by rw [hE.out, show (x.f0.toList == y.f0.toList) = true from beq_iff_eq.2 e_f0, show (x.f1 == y.f1) = true by simpa using e_f1, show (x.f2 == y.f2) = false by simpa using e_f2]; simp⟩
        go_wp2_with fail
        go_ret
        exact ⟨by rw [hv.out]; rfl, LW.out⟩
    · have hv : Aside0 (funE x y = false) := ⟨by rw [hE.out, show (x.f0.toList == y.f0.toList) = true from beq_iff_eq.2 e_f0, show (x.f1 == y.f1) = false by simpa using e_f1]; simp⟩
      go_wp2_with fail
      go_ret
      exact ⟨by rw [hv.out]; rfl, LW.out⟩
  · have hv : Aside0 (funE x y = false) := ⟨by rw [hE.out, show (x.f0.toList == y.f0.toList) = false from beq_eq_false_iff_ne.2 e_f0]; simp⟩
    go_wp2_with fail
    go_ret
    exact ⟨by rw [hv.out]; rfl, LW.out⟩
end Go.Proofs.Ytobikiffjanagaa.Cpy
end
section
namespace Go.Proofs.Ytobikiffjanagaa.Cpy
open Go.RowKit Go.Proofs.YtobikiffjanagaaW.PrintWords Go.Proofs.YtobikiffjanagaaW.PrintLast Go.Proofs.YtobikiffjanagaaW.PrintMore Go.Proofs.Ytobikiffjanagaa.PIrCopies
set_option linter.unusedVariables false
set_option linter.unusedSimpArgs false
/-- Which cells spoilt may write. -/
def Fr (t j : Nat) : Bool := t == 3 || (t == 44 && j % 7 == 0) || (t == 58 && j % 4 == 1)
/-- The skeleton stays. -/
structure Sk (S : Nat → Prop) (w wr : World) : Prop where
  os : wr.os = w.os ∧ wr.tape = w.tape ∧ wr.output = w.output
  kept : Kept w wr S
  cl : ∀ (g : Nat) (cs : Array Value) (t : TypeId), w.heap[g]? = some (Obj.cells cs t (0, 0)) → ∃ cs' : Array Value, wr.heap[g]? = some (Obj.cells cs' t (0, 0)) ∧ cs'.size = cs.size ∧ ∀ j, (Fr t j = false → cs'[j]? = cs[j]?) ∧ ∀ z : Int, cs[j]? = some (Value.int .i64 z) → ∃ z' : Int, cs'[j]? = some (Value.int .i64 z')
theorem Sk.refl (S : Nat → Prop) (w : World) : Sk S w w := ⟨⟨rfl, rfl, rfl⟩, Kept.refl _ _, fun g cs t h => ⟨cs, h, rfl, fun j => ⟨fun _ => rfl, fun z hz => ⟨z, hz⟩⟩⟩⟩
section
variable {S : Nat → Prop} {w wr : World}
theorem Sk.cell (h : Sk S w wr) {g t j : Nat} {cs : Array Value} {v : Value} (hb : w.heap[g]? = some (.cells cs t (0, 0))) (hc : w.cell? ⟨g, j, none⟩ = some v) (hf : Fr t j = false) : wr.cell? ⟨g, j, none⟩ = some v := by
  obtain ⟨cs', h1, h2, h3⟩ := h.cl g cs t hb
  rw [blk_cell hb] at hc
  rw [blk_cell h1, (h3 j).1 hf, hc]
theorem Sk.int (h : Sk S w wr) {g t j : Nat} {cs : Array Value} {z : Int} (hb : w.heap[g]? = some (.cells cs t (0, 0))) (hc : w.cell? ⟨g, j, none⟩ = some (.int .i64 z)) : (∃ z', wr.cell? ⟨g, j, none⟩ = some (.int .i64 z')) ∧ wr.frozen? ⟨g, j, none⟩ = false := by
  obtain ⟨cs', h1, h2, h3⟩ := h.cl g cs t hb
  rw [blk_cell hb] at hc
  obtain ⟨z', hz⟩ := (h3 j).2 z hc
  exact ⟨⟨z', by rw [blk_cell h1, hz]⟩, blk_frozen h1 j⟩
theorem Sk.set (h : Sk S w wr) {g t j : Nat} {cs : Array Value} (hb : w.heap[g]? = some (.cells cs t (0, 0))) (hS : S g) (hf : Fr t j = true) (z : Int) : Sk S w (wr.setCell ⟨g, j, none⟩ (.int .i64 z)) := by
  refine ⟨h.os, Kept.setCell h.kept (.inl hS) _, fun g' cs0 t' h0 => ?_⟩
  obtain ⟨cs', h1, h2, h3⟩ := h.cl g' cs0 t' h0
  by_cases e : g' = g
  · subst e
    obtain ⟨rfl, rfl⟩ : cs0 = cs ∧ t' = t := by
      rw [hb] at h0
      have := Option.some.inj h0
      injection this with a b
      exact ⟨a.symm, b.symm⟩
    refine ⟨_, blk_set h1 j (.int .i64 z), by simp [h2], fun k => ⟨fun hk => ?_, fun z0 hz => ?_⟩⟩
    · have : k ≠ j := fun e => by subst e; rw [hf] at hk; cases hk
      rw [Array.getElem?_setIfInBounds_ne (fun e => this e.symm)]; exact (h3 k).1 hk
    · by_cases e : j = k
      · subst e
        have hlt : j < cs'.size := by rw [h2]; exact (Array.getElem?_eq_some_iff.1 hz).1
        exact ⟨z, by rw [Array.getElem?_setIfInBounds_self_of_lt hlt]⟩
      · rw [Array.getElem?_setIfInBounds_ne e]; exact (h3 k).2 z0 hz
  · exact ⟨cs', (blk_far h1 (p := ⟨g, j, none⟩) e _), h2, h3⟩
end
set_option maxHeartbeats 32000000 in
set_option maxRecDepth 100000 in
theorem spoilt_calls {w : World} {x : S33} {v : Value} {base hi : Nat} (hR : k58.R 58 w base (fun k => base ≤ k ∧ k < hi) v x.f4) (hz : szF x) (hhi : hi ≤ w.heap.size) :
    Calls Try.prog 24 #[agF x v] w fun e w' => e = .returned (.tuple #[]) ∧ Kept w w' (fun k => base ≤ k ∧ k < hi) ∧ w'.os = w.os ∧ w'.tape = w.tape ∧ w'.output = w.output := by
  obtain ⟨A, c, hve⟩ := Kd.R_slice hR
  subst hve
  have F0 := Aside0.mk (blk_new w (fO x (.slice A x.f4.length c)))
  have hR0 := Aside0.mk (Kd.R_alloc hR (fO x (.slice A x.f4.length c)))
  have hK0 : Aside0 (Kept w (w.alloc (fO x (.slice A x.f4.length c))) (fun k => base ≤ k ∧ k < hi)) := ⟨Kept.alloc (Kept.refl _ _) _⟩
  have hfb : Aside0 (hi ≤ w.heap.size) := ⟨hhi⟩
  have hio : Aside0 ((w.alloc (fO x (.slice A x.f4.length c))).os = w.os ∧ (w.alloc (fO x (.slice A x.f4.length c))).tape = w.tape ∧ (w.alloc (fO x (.slice A x.f4.length c))).output = w.output) := ⟨rfl, rfl, rfl⟩
  replace hz := Aside0.mk hz
  clear hR hhi
  have hnl : x.f4.length ≤ 2300000000000 := by have := hz.out.1; omega
  go_enter Try.func24, Try.ntmps24
  go_upto_region 1 with (fail)
  generalize w.alloc (fO x (.slice A x.f4.length c)) = W0 at *
  have a4 := (blk_cell F0.out 4).trans (show _ = some (.slice A x.f4.length c) from rfl)
  have K0 : Aside0 (Sk (fun k => base ≤ k ∧ k < hi) W0 W0) := ⟨Sk.refl _ _⟩
  go_wp2_with fail
  go_loopw [2] (fun u2 wr => ∃ i : Nat, i ≤ x.f4.length ∧ u2 = .int .i64 i ∧ Aside0 (Sk (fun k => base ≤ k ∧ k < hi) W0 wr)) (fun u _ => x.f4.length - (intOf u).toNat)
  case atStart => exact ⟨0, Nat.zero_le _, rfl, K0⟩
  case round =>
    clear K0 a4
    obtain ⟨i, hi1, rfl, K0⟩ := hrel
    have b4 := Aside0.mk ((blk_cell F0.out 4).trans (show _ = some (.slice A x.f4.length c) from rfl))
    have a4 := K0.out.cell F0.out b4.out (j := 4) rfl
    by_cases hlt : i < x.f4.length
    · have q0 : (0 : Int) ≤ (i : Int) := by omega
      have q1 : (i : Int) < (x.f4.length : Int) := by omega
      have hiw : IntKind.i64.wrap ((i : Int) + 1) = (i : Int) + 1 := IntWalk.i64_in _ (by omega)
      obtain ⟨g, cap, eg, hg0, hg1, gcs, hgb⟩ := Kd.R_form hR0.out (by omega)
      injection eg with eg1 eg2 eg3
      subst eg1
      subst eg3
      clear eg2
      have hSg : Aside0 (base ≤ g ∧ g < hi) := ⟨hR0.out.1 g (by simp [Value.ownBlock])⟩
      obtain ⟨cs, _, hM, hcc, _⟩ := Kd.R_elem hR0.out z58 (i : Int) q0 q1
      rw [Int.toNat_natCast] at hM
      simp only [Int.toNat_natCast] at hcc
      obtain ⟨v0, v3, rfl, hRn, hR3⟩ := k58_openM hM
      have hsz := Aside0.mk (hz.out.2 _ (getD_mem x.f4 z58 i hlt))
      clear hM
      generalize x.f4.getD i z58 = b at *
      obtain ⟨An, cn, hve⟩ := Kd.R_slice hRn
      subst hve
      obtain ⟨At, ct, hve⟩ := Kd.R_slice hR3
      subst hve
      have Y0 := Aside0.mk (hcc 0 _ rfl)
      have Y1 := Aside0.mk (hcc 1 _ rfl)
      have Y3 := Aside0.mk (hcc 3 _ rfl)
      simp only [show k58.sz = 4 from rfl, Nat.add_zero] at Y0 Y1 Y3
      clear hcc
      replace hgb := Aside0.mk hgb
      replace hRn := Aside0.mk hRn
      replace hR3 := Aside0.mk hR3
      have hnn : b.f0.length ≤ 1700000000000 := by have := hsz.out.1; omega
      have hnt : b.f3.length ≤ 17600000000000 := by have := hsz.out.2.1; omega
      have ap1 := add_plain g (i * 4)
      have y0 := K0.out.cell hgb.out Y0.out (by simp [Fr])
      go_wp2_with fail
      go_loopw [3] (fun u3 wr => ∃ k : Nat, k ≤ b.f0.length ∧ u3 = .int .i64 k ∧ Aside0 (Sk (fun k => base ≤ k ∧ k < hi) W0 wr)) (fun u _ => b.f0.length - (intOf u).toNat)
      case atStart => exact ⟨0, Nat.zero_le _, rfl, K0⟩
      case round =>
        clear K0 a4 y0
        obtain ⟨k, hk1, rfl, K0⟩ := hrel
        have a4 := K0.out.cell F0.out b4.out (j := 4) rfl
        have y0 := K0.out.cell hgb.out Y0.out (by simp [Fr])
        by_cases hlk : k < b.f0.length
        · have p0 : (0 : Int) ≤ (k : Int) := by omega
          have p1 : (k : Int) < (b.f0.length : Int) := by omega
          have hkw : IntKind.i64.wrap ((k : Int) + 1) = (k : Int) + 1 := IntWalk.i64_in _ (by omega)
          obtain ⟨gc, capc, ec, _, _, ccs, hcb⟩ := Kd.R_form hRn.out (by omega)
          injection ec with ec1 ec2 ec3
          subst ec1
          subst ec3
          clear ec2
          have hSc : Aside0 (base ≤ gc ∧ gc < hi) := ⟨((hRn.out.1 gc (by simp [Value.ownBlock])).1)⟩
          obtain ⟨ds, _, hM, hcc, _⟩ := Kd.R_elem hRn.out z44 (k : Int) p0 p1
          rw [Int.toNat_natCast] at hM
          simp only [Int.toNat_natCast] at hcc
          obtain ⟨v2, v6, rfl, hR2, hR6⟩ := k44_openM hM
          have hzi := Aside0.mk (hsz.out.2.2 _ (getD_mem b.f0 z44 k hlk))
          clear hM
          generalize b.f0.getD k z44 = y at *
          obtain ⟨A2, c2, hve⟩ := Kd.R_slice hR2
          subst hve
          obtain ⟨A6, c6, hve⟩ := Kd.R_slice hR6
          subst hve
          have X0 := Aside0.mk (hcc 0 _ rfl)
          have X2 := Aside0.mk (hcc 2 _ rfl)
          have X6 := Aside0.mk (hcc 6 _ rfl)
          simp only [show k44.sz = 7 from rfl, Nat.add_zero] at X0 X2 X6
          clear hcc
          replace hcb := Aside0.mk hcb
          replace hR2 := Aside0.mk hR2
          replace hR6 := Aside0.mk hR6
          have hn2 : y.f2.length ≤ 17600000000000 := by have h := hzi.out; unfold szI at h; omega
          have hn6 : y.f6.length ≤ 17600000000000 := by have h := hzi.out; unfold szI at h; omega
          have ap2 := add_plain gc (k * 7)
          have x2 := K0.out.cell hcb.out X2.out (by simp [Fr, Nat.add_mod])
          go_wp2_with fail
          go_loopw [5] (fun u5 wr => ∃ m : Nat, m ≤ y.f2.length ∧ u5 = .int .i64 m ∧ Aside0 (Sk (fun k => base ≤ k ∧ k < hi) W0 wr)) (fun u _ => y.f2.length - (intOf u).toNat)
          case atStart => exact ⟨0, Nat.zero_le _, rfl, K0⟩
          case round =>
            clear K0 x2 a4 y0
            obtain ⟨m, hm1, rfl, K0⟩ := hrel
            have x2 := K0.out.cell hcb.out X2.out (by simp [Fr, Nat.add_mod])
            have a4 := K0.out.cell F0.out b4.out (j := 4) rfl
            have y0 := K0.out.cell hgb.out Y0.out (by simp [Fr])
            by_cases hlm : m < y.f2.length
            · have m0 : (0 : Int) ≤ (m : Int) := by omega
              have m1 : (m : Int) < (y.f2.length : Int) := by omega
              have hmw : IntKind.i64.wrap ((m : Int) + 1) = (m : Int) + 1 := IntWalk.i64_in _ (by omega)
              obtain ⟨ga, capa, ea, _, _, acs, hab⟩ := Kd.R_form hR2.out (by omega)
              injection ea with ea1 ea2 ea3
              subst ea1
              subst ea3
              clear ea2
              have hSa : Aside0 (base ≤ ga ∧ ga < hi) := ⟨(hR2.out.1 ga (by simp [Value.ownBlock])).1.1⟩
              obtain ⟨es, _, hM, hcc, _⟩ := Kd.R_elem hR2.out 0 (m : Int) m0 m1
              have hM' : es = [.int .i64 (y.f2.getD (m : Int).toNat 0)] := hM
              subst hM'
              have V0 := Aside0.mk (hcc 0 _ rfl)
              simp only [Int.toNat_natCast, show (Kd.int .i64).sz = 1 from rfl, Nat.mul_one, Nat.add_zero] at V0
              clear hM hcc
              replace hab := Aside0.mk hab
              obtain ⟨⟨zo, x0⟩, xf⟩ := K0.out.int hab.out V0.out
              have K1 := Aside0.mk (K0.out.set (j := m) hab.out hSa.out (by simp [Fr]) (-9))
              have ap3 := add_plain ga m
              go_wp2_with fail
              go_roundw
              case rel => exact ⟨m + 1, by omega, by go_num, K1⟩
              case measure => simp [intOf]; omega
            · obtain rfl : m = y.f2.length := by omega
              have x6 := K0.out.cell hcb.out X6.out (by simp [Fr, Nat.add_mod])
              go_wp2_with fail
              go_loopw [6] (fun u6 wr => ∃ m : Nat, m ≤ y.f6.length ∧ u6 = .int .i64 m ∧ Aside0 (Sk (fun k => base ≤ k ∧ k < hi) W0 wr)) (fun u _ => y.f6.length - (intOf u).toNat)
              case atStart => exact ⟨0, Nat.zero_le _, rfl, K0⟩
              case round =>
                clear K0 x6 x2 a4 y0
                obtain ⟨m, hm1, rfl, K0⟩ := hrel
                have x6 := K0.out.cell hcb.out X6.out (by simp [Fr, Nat.add_mod])
                have a4 := K0.out.cell F0.out b4.out (j := 4) rfl
                have y0 := K0.out.cell hgb.out Y0.out (by simp [Fr])
                by_cases hlm : m < y.f6.length
                · have m0 : (0 : Int) ≤ (m : Int) := by omega
                  have m1 : (m : Int) < (y.f6.length : Int) := by omega
                  have hmw : IntKind.i64.wrap ((m : Int) + 1) = (m : Int) + 1 := IntWalk.i64_in _ (by omega)
                  obtain ⟨ga, capa, ea, _, _, acs, hab⟩ := Kd.R_form hR6.out (by omega)
                  injection ea with ea1 ea2 ea3
                  subst ea1
                  subst ea3
                  clear ea2
                  have hSa : Aside0 (base ≤ ga ∧ ga < hi) := ⟨(hR6.out.1 ga (by simp [Value.ownBlock])).1.1⟩
                  obtain ⟨es, _, hM, hcc, _⟩ := Kd.R_elem hR6.out 0 (m : Int) m0 m1
                  have hM' : es = [.int .i64 (y.f6.getD (m : Int).toNat 0)] := hM
                  subst hM'
                  have V0 := Aside0.mk (hcc 0 _ rfl)
                  simp only [Int.toNat_natCast, show (Kd.int .i64).sz = 1 from rfl, Nat.mul_one, Nat.add_zero] at V0
                  clear hM hcc
                  replace hab := Aside0.mk hab
                  obtain ⟨⟨zo, x0⟩, xf⟩ := K0.out.int hab.out V0.out
                  have K1 := Aside0.mk (K0.out.set (j := m) hab.out hSa.out (by simp [Fr]) (-9))
                  have ap3 := add_plain ga m
                  go_wp2_with fail
                  go_roundw
                  case rel => exact ⟨m + 1, by omega, by go_num, K1⟩
                  case measure => simp [intOf]; omega
                · obtain rfl : m = y.f6.length := by omega
                  obtain ⟨⟨zo, x0⟩, xf⟩ := K0.out.int hcb.out X0.out
                  have K1 := Aside0.mk (K0.out.set (j := k * 7) hcb.out hSc.out (by simp [Fr]) (-9))
                  go_wp2_with fail
                  go_roundw
                  case rel => exact ⟨k + 1, by omega, by go_num, K1⟩
                  case measure => simp [intOf]; omega
        · obtain rfl : k = b.f0.length := by omega
          have y3 := K0.out.cell hgb.out Y3.out (by simp [Fr, Nat.add_mod])
          go_wp2_with fail
          go_loopw [7] (fun u7 wr => ∃ m : Nat, m ≤ b.f3.length ∧ u7 = .int .i64 m ∧ Aside0 (Sk (fun k => base ≤ k ∧ k < hi) W0 wr)) (fun u _ => b.f3.length - (intOf u).toNat)
          case atStart => exact ⟨0, Nat.zero_le _, rfl, K0⟩
          case round =>
            clear K0 y3 a4 y0
            obtain ⟨m, hm1, rfl, K0⟩ := hrel
            have y3 := K0.out.cell hgb.out Y3.out (by simp [Fr, Nat.add_mod])
            have a4 := K0.out.cell F0.out b4.out (j := 4) rfl
            by_cases hlm : m < b.f3.length
            · have m0 : (0 : Int) ≤ (m : Int) := by omega
              have m1 : (m : Int) < (b.f3.length : Int) := by omega
              have hmw : IntKind.i64.wrap ((m : Int) + 1) = (m : Int) + 1 := IntWalk.i64_in _ (by omega)
              obtain ⟨ga, capa, ea, _, _, acs, hab⟩ := Kd.R_form hR3.out (by omega)
              injection ea with ea1 ea2 ea3
              subst ea1
              subst ea3
              clear ea2
              have hSa : Aside0 (base ≤ ga ∧ ga < hi) := ⟨(hR3.out.1 ga (by simp [Value.ownBlock])).1⟩
              obtain ⟨es, _, hM, hcc, _⟩ := Kd.R_elem hR3.out 0 (m : Int) m0 m1
              have hM' : es = [.int .i64 (b.f3.getD (m : Int).toNat 0)] := hM
              subst hM'
              have V0 := Aside0.mk (hcc 0 _ rfl)
              simp only [Int.toNat_natCast, show (Kd.int .i64).sz = 1 from rfl, Nat.mul_one, Nat.add_zero] at V0
              clear hM hcc
              replace hab := Aside0.mk hab
              obtain ⟨⟨zo, x0⟩, xf⟩ := K0.out.int hab.out V0.out
              have K1 := Aside0.mk (K0.out.set (j := m) hab.out hSa.out (by simp [Fr]) (-9))
              have ap3 := add_plain ga m
              go_wp2_with fail
              go_roundw
              case rel => exact ⟨m + 1, by omega, by go_num, K1⟩
              case measure => simp [intOf]; omega
            · obtain rfl : m = b.f3.length := by omega
              obtain ⟨⟨ze, y1⟩, yf⟩ := K0.out.int hgb.out Y1.out
              have K1 := Aside0.mk (K0.out.set (j := i * 4 + 1) hgb.out hSg.out (by simp [Fr, Nat.add_mod]) (-9))
              go_wp2_with fail
              go_roundw
              case rel => exact ⟨i + 1, by omega, by go_num, K1⟩
              case measure => simp [intOf]; omega
    · obtain rfl : i = x.f4.length := by omega
      go_wp2_with fail
      go_end0
      exact ⟨rfl, ⟨Nat.le_trans hK0.out.1 K0.out.kept.1, fun j hj hS => (K0.out.kept.2 j (Nat.lt_of_lt_of_le hj hK0.out.1) hS).trans (hK0.out.2 j hj hS)⟩, K0.out.os.1.trans hio.out.1, K0.out.os.2.1.trans hio.out.2.1, K0.out.os.2.2.trans hio.out.2.2⟩
end Go.Proofs.Ytobikiffjanagaa.Cpy
end
section
namespace Go.Proofs.Ytobikiffjanagaa.IrA
open Go.RowKit Go.Proofs.YtobikiffjanagaaW.PrintWords Go.Proofs.YtobikiffjanagaaW.PrintLast Go.Proofs.Ytobikiffjanagaa.GF
set_option linter.unusedVariables false
set_option linter.unusedSimpArgs false
set_option maxHeartbeats 4000000 in
set_option maxRecDepth 100000 in
theorem shape_at (op : Int) (h : op = 1 ∨ op = 2 ∨ op = 3 ∨ op = 4 ∨ op = 5 ∨ op = 6 ∨ op = 7 ∨ op = 8 ∨ op = 9 ∨ op = 10 ∨ op = 11 ∨ op = 12) : ShapeIs op (pt op) := by
  intro w
  rcases h with rfl | rfl | rfl | rfl | rfl | rfl | rfl | rfl | rfl | rfl | rfl | rfl
  all_goals
    go_enter Try.func44, Try.ntmps44
    go_wp2
    exact bodyPost_ret (results_ct rfl _ _ w.heap.size 74 #[.bool _, .int .i64 _, .bool _, .bool _, .bool _, .bool _] (0, 0) _ rfl (blk_new w _) Try.underlying74 rfl (by kernel_rfl)) rfl ⟨rfl, below_alloc (Below.refl _ _) _⟩
set_option maxHeartbeats 4000000 in
set_option maxRecDepth 100000 in
theorem shape_no (op : Int) (h1 : (op == 1) = false) (h2 : (op == 2) = false) (h3 : (op == 3) = false) (h4 : (op == 4) = false) (h5 : (op == 5) = false) (h6 : (op == 6) = false) (h7 : (op == 7) = false) (h8 : (op == 8) = false) (h9 : (op == 9) = false) (h10 : (op == 10) = false) (h11 : (op == 11) = false) (h12 : (op == 12) = false) (w : World) :
    Calls Try.prog 44 #[.int .i64 op] w (RetB (.tuple #[ptv ⟨false, 0, false, false, false, false, false⟩, .bool false]) w) := by
  go_enter Try.func44, Try.ntmps44
  go_wp2
  exact bodyPost_ret (results_ct rfl _ _ w.heap.size 74 #[.bool _, .int .i64 _, .bool _, .bool _, .bool _, .bool _] (0, 0) _ rfl (blk_new w _) Try.underlying74 rfl (by kernel_rfl)) rfl ⟨rfl, below_alloc (Below.refl _ _) _⟩
theorem shape (op : Int) : ShapeIs op (pt op) := by
  by_cases h : op = 1 ∨ op = 2 ∨ op = 3 ∨ op = 4 ∨ op = 5 ∨ op = 6 ∨ op = 7 ∨ op = 8 ∨ op = 9 ∨ op = 10 ∨ op = 11 ∨ op = 12
  · exact shape_at op h
  · intro w
    have e : pt op = ⟨false, 0, false, false, false, false, false⟩ := by
      unfold pt
      rw [if_neg (by omega), if_neg (by omega), if_neg (by omega), if_neg (by omega), if_neg (by omega), if_neg (by omega), if_neg (by omega), if_neg (by omega), if_neg (by omega), if_neg (by omega)]
    rw [e]
    refine shape_no op ?_ ?_ ?_ ?_ ?_ ?_ ?_ ?_ ?_ ?_ ?_ ?_ w <;> simp <;> omega
end Go.Proofs.Ytobikiffjanagaa.IrA
end
section
namespace Go.Proofs.Ytobikiffjanagaa.IrA
open Go.RowKit Go.Proofs.YtobikiffjanagaaW.PrintWords Go.Proofs.YtobikiffjanagaaW.PrintLast Go.Proofs.YtobikiffjanagaaW.PrintMore Go.Proofs.Ytobikiffjanagaa.GF
set_option linter.unusedVariables false
set_option linter.unusedSimpArgs false
abbrev KL : Kd (List Int) := Kd.slice 3 (Kd.int .i64)
/-- A row of rows: a list of lists, made above base. -/
abbrev LL (w : World) (base : Nat) (v : Value) (L : List (List Int)) : Prop := Kd.S KL 41 w base (fun _ => True) v L
theorem LL.take {W : World} {base g n cap : Nat} {L : List (List Int)} (h : LL W base (.slice (some ⟨g, 0, none⟩) n cap) L) (t : Nat) (ht : t < n) :
    ∃ (oki : Nat → Prop) (A0 : Option Addr) (c0 : Nat), Kd.R (Kd.int .i64) 3 W base oki (.slice A0 (L.getD t []).length c0) (L.getD t []) ∧ W.cell? ⟨g, t, none⟩ = some (.slice A0 (L.getD t []).length c0) ∧ (L.getD t []).length ≤ c0 ∧ (Kd.int .i64).C W A0 (L.getD t []).length (L.getD t []) ∧ Kd.H KL 41 W base (fun _ => True) (.slice (some ⟨g, 0, none⟩) n cap) L t oki [.slice A0 (L.getD t []).length c0] := by
  obtain ⟨oki, c, hcl, hM, hcc, _, _, hH⟩ := Kd.S_elem h [] (t : Int) (by omega) (by omega)
  rw [Int.toNat_natCast] at hM hcc
  obtain ⟨v, rfl, hv⟩ := hM
  obtain ⟨A, cc, rfl⟩ := Kd.R_slice hv
  have h0 := hcc 0 _ rfl
  have hr := Kd.R_reads' hv
  refine ⟨oki, A, cc, hv, ?_, hr.2.1, hr.2.2, hH⟩
  rwa [show KL.sz = 1 from rfl, Nat.mul_one, Nat.add_zero] at h0
theorem LL.put {W w1 : World} {base g n cap t N : Nat} {L : List (List Int)} {oki : Nat → Prop} {A0 : Option Addr} {c0 m : Nat} {v1 : Value} {x : List Int} (hH : Kd.H KL 41 W base (fun _ => True) (.slice (some ⟨g, 0, none⟩) n cap) L t oki [.slice A0 m c0]) (ht : t < n)
    (hR : Kd.R (Kd.int .i64) 3 W base oki (.slice A0 m c0) (L.getD t [])) (hg : W.grownBy w1 (Value.slice A0 m c0).ownBlock) (ho : Kd.R (Kd.int .i64) 3 w1 base (fun k => oki k ∨ N ≤ k) v1 x) (hN : W.heap.size ≤ N) :
    LL (w1.setCell ⟨g, t, none⟩ v1) base (.slice (some ⟨g, 0, none⟩) n cap) (L.set t x) ∧ w1.cell? ⟨g, t, none⟩ = some (.slice A0 m c0) ∧ w1.frozen? ⟨g, t, none⟩ = false ∧ w1.grownBy (w1.setCell ⟨g, t, none⟩ v1) (some g) := by
  have h3 := Kd.H_grown (Kd.H_widen hH) hg (fun k e => .inl (hR.1 k e))
  obtain ⟨_, _, hraw, _, _, hcc, _⟩ := Kd.H_raw h3 (by omega) (by omega)
  obtain ⟨_, hfr⟩ := Kd.H_at h3 (by omega) (by omega)
  obtain ⟨A1, c1, rfl⟩ := Kd.R_slice ho
  have h4 := Kd.S_seg0 h3 (by omega) (by omega) (seg := [.slice A1 x.length c1]) (j := 0) (show 1 ≤ 1 from by decide) (x' := x) (Kd.M_row ho) (fun _ hk => hk.imp id fun h => ⟨trivial, Nat.le_trans hN h⟩)
  have hx := hcc 0 _ rfl
  have hf := hfr 0
  simp only [show KL.sz = 1 from rfl, Nat.mul_one, Nat.add_zero, Int.toNat_natCast] at h4 hx hf
  exact ⟨h4.1, hx, hf, h4.2⟩
def stepP (L : List (List Int)) (i t : Int) : List (List Int) := if 0 ≤ t ∧ t < L.length then (if i ∈ L.getD t.toNat [] then L else L.set t.toNat (L.getD t.toNat [] ++ [i])) else L
def rowP (L : List (List Int)) (i : Int) (ts : List Int) : List (List Int) := ts.foldl (fun L t => stepP L i t) L
def predsTo (bs : List S58) : Nat → List (List Int)
  | 0 => List.replicate bs.length []
  | n + 1 => rowP (predsTo bs n) (n : Int) (bs.getD n z58).f3
def predsP (bs : List S58) : List (List Int) := predsTo bs bs.length
/-- Ahead of row i; within row i. -/
def In0 (L : List (List Int)) (i : Nat) : Prop := ∀ l ∈ L, (∀ x ∈ l, x < (i : Int)) ∧ l.length ≤ i
def In1 (L : List (List Int)) (i : Nat) : Prop := ∀ l ∈ L, ((∀ x ∈ l, x < (i : Int)) ∧ l.length ≤ i) ∨ ∃ l0, l = l0 ++ [(i : Int)] ∧ (∀ x ∈ l0, x < (i : Int)) ∧ l0.length ≤ i
theorem In0.one {L : List (List Int)} {i : Nat} (h : In0 L i) : In1 L i := fun l hl => .inl (h l hl)
theorem In1.zero {L : List (List Int)} {i : Nat} (h : In1 L i) : In0 L (i + 1) := by
  intro l hl
  rcases h l hl with ⟨h1, h2⟩ | ⟨l0, rfl, h1, h2⟩
  · exact ⟨fun x hx => by have := h1 x hx; omega, by omega⟩
  · refine ⟨fun x hx => ?_, by simp; omega⟩
    rcases List.mem_append.1 hx with hx | hx
    · have := h1 x hx; omega
    · have : x = (i : Int) := by simpa using hx
      omega
theorem getD_in {L : List (List Int)} {t : Nat} (h : t < L.length) : L.getD t [] ∈ L := by
  rw [List.getD_eq_getElem?_getD, List.getElem?_eq_getElem h]; exact List.getElem_mem h
theorem stepP_length (L : List (List Int)) (i t : Int) : (stepP L i t).length = L.length := by
  unfold stepP; split
  · split <;> simp
  · rfl
theorem rowP_length (ts : List Int) : ∀ (L : List (List Int)) (i : Int), (rowP L i ts).length = L.length := by
  induction ts with
  | nil => exact fun _ _ => rfl
  | cons t ts ih => intro L i; show (rowP (stepP L i t) i ts).length = _; rw [ih, stepP_length]
theorem predsTo_length (bs : List S58) : ∀ n, (predsTo bs n).length = bs.length
  | 0 => by simp [predsTo]
  | n + 1 => by rw [predsTo, rowP_length, predsTo_length bs n]
theorem In1.step {L : List (List Int)} {i : Nat} (h : In1 L i) (t : Int) : In1 (stepP L i t) i := by
  unfold stepP
  by_cases hr : 0 ≤ t ∧ t < L.length
  · rw [if_pos hr]
    split
    · exact h
    · rename_i hn
      intro l hl
      rcases List.mem_or_eq_of_mem_set hl with hl | rfl
      · exact h l hl
      · rcases h _ (getD_in (by omega : t.toNat < L.length)) with ⟨h1, h2⟩ | ⟨l0, e, h1, h2⟩
        · exact .inr ⟨_, rfl, h1, h2⟩
        · exact absurd (by rw [e]; simp) hn
  · rw [if_neg hr]; exact h
theorem In1.row {i : Nat} : ∀ (ts : List Int) {L : List (List Int)}, In1 L i → In1 (rowP L i ts) i
  | [], _, h => h
  | t :: ts, L, h => In1.row ts (h.step t)
theorem in0_preds (bs : List S58) : ∀ n, In0 (predsTo bs n) n
  | 0 => by
    intro l hl
    have : l = [] := by simp [predsTo] at hl; exact hl.2
    subst this
    simp
  | n + 1 => (In1.row _ (in0_preds bs n).one).zero
theorem rowP_snoc (L : List (List Int)) (i : Int) (ts : List Int) (j : Nat) (h : j < ts.length) : rowP L i (ts.take (j + 1)) = stepP (rowP L i (ts.take j)) i (rd ts j) := by
  unfold rowP
  rw [List.take_succ_eq_append_getElem h, List.foldl_append]
  simp [rd, List.getD_eq_getElem?_getD, List.getElem?_eq_getElem h]
/-- The last one, or none. -/
theorem In1.last {L : List (List Int)} {i : Nat} (h : In1 L i) {t : Nat} (ht : t < L.length) (hl : 0 < (L.getD t []).length) : (i : Int) ∈ L.getD t [] ↔ rd (L.getD t []) (((L.getD t []).length - 1 : Nat) : Int) = (i : Int) := by
  have hm := h _ (getD_in ht)
  generalize L.getD t [] = l at *
  have er : rd l ((l.length - 1 : Nat) : Int) = l[l.length - 1] := by simp [rd, List.getD_eq_getElem?_getD, List.getElem?_eq_getElem (show l.length - 1 < l.length by omega)]
  rw [er]
  rcases hm with ⟨h1, _⟩ | ⟨l0, rfl, h1, _⟩
  · constructor
    · intro hi; have := h1 _ hi; omega
    · intro e; have := h1 _ (List.getElem_mem (show l.length - 1 < l.length by omega)); omega
  · simp
end Go.Proofs.Ytobikiffjanagaa.IrA
end
section
namespace Go.Proofs.Ytobikiffjanagaa.IrA
open Go.RowKit Go.Proofs.YtobikiffjanagaaW.PrintWords Go.Proofs.YtobikiffjanagaaW.PrintLast Go.Proofs.YtobikiffjanagaaW.PrintMore Go.Proofs.Ytobikiffjanagaa.GF
set_option linter.unusedVariables false
set_option linter.unusedSimpArgs false
theorem info41' : (Try.prog.info? 41).map (fun i => (i.zero, i.size, i.bytes)) = some (some (.slice none 0 0), 1, 24) := by kernel_rfl
theorem info3' : (Try.prog.info? 3).map (fun i => (i.zero, i.size, i.bytes)) = some (some (.int .i64 0), 1, 8) := by kernel_rfl
/-- A function's values. -/
abbrev fv (nm : ByteArray) (pa re sl : Int) (A : Option Addr) (n c : Nat) : Value := .agg #[.string nm, .int .i64 pa, .int .i64 re, .int .i64 sl, .slice A n c]
abbrev fb (nm : ByteArray) (pa re sl : Int) (A : Option Addr) (n c : Nat) : Obj := .cells #[.string nm, .int .i64 pa, .int .i64 re, .int .i64 sl, .slice A n c] 33 (0, 0)
/-- Lists of lists are told, made above w. -/
def RetL (L : List (List Int)) (w : World) (e : Ending) (w' : World) : Prop := ∃ v, e = .returned v ∧ LL w' w.heap.size v L ∧ Below w.heap.size w w'
set_option maxHeartbeats 16000000 in
set_option maxRecDepth 100000 in
theorem preds {w : World} (nm : ByteArray) (pa re sl : Int) (A : Option Addr) (c : Nat) (bs : List S58) (hl : Aside0 (Kd.C k58 w A bs.length bs)) (hn : bs.length ≤ 2199023255552) :
    Calls Try.prog 14 #[fv nm pa re sl A bs.length c] w (RetL (predsP bs) w) := by
  have hX : Aside0 ((w.alloc (fb nm pa re sl A bs.length c)).heap[w.heap.size]? = some (fb nm pa re sl A bs.length c)) := ⟨blk_new w _⟩
  have hB : Aside0 (Below w.heap.size w (w.alloc (fb nm pa re sl A bs.length c))) := ⟨below_alloc (Below.refl _ _) _⟩
  go_enter Try.func14, Try.ntmps14
  go_wp2_with ((with_reducible refine gate_dst (N := 11) rfl ?_); refine Kd.S_make KL (w0 := w.alloc (fb nm pa re sl A bs.length c)) _ 41 rfl (N := 11) rfl 36 _ _ rfl (bs.length : Int) rfl rfl Try.underlying36 (.slice none 0 0) 24 info41' rfl (by decide) (by omega) [] (ok := fun _ => True) (okp := fun _ => True) ⟨_, rfl, Kd.R_nil _ _ _ _ _⟩ (fun _ h => h) trivial (by omega) (by omega) (Below.refl _ _) (Nat.le_refl _) ?_; intro v1 w1 hS hb hg hat; have hX1 := Aside0.mk (blk_grown hX.out hg (by simp)); have hB1 := Aside0.mk (below_step hB.out hb); have hS1 : Aside0 (LL w1 w.heap.size v1 (predsTo bs 0)) := ⟨Kd.S_lower (by rw [Int.toNat_natCast] at hS; exact hS) hB.out.size⟩; obtain ⟨AO, cO, eO⟩ := Kd.S_slice hS; rw [Int.toNat_natCast, List.length_replicate] at eO; subst eO; have k4 : w1.cell? ⟨w.heap.size, 4, none⟩ = some (.slice A bs.length c) := (blk_cell hX1.out 4).trans rfl; clear hS hb hg hat hX hB)
  go_loopw [15] (fun i wr => ∃ j : Nat, j ≤ bs.length ∧ i = .int .i64 j ∧ Aside0 (LL wr w.heap.size (.slice AO bs.length cO) (predsTo bs j)) ∧ Aside0 (wr.heap[w.heap.size]? = some (fb nm pa re sl A bs.length c)) ∧ Aside0 (Below w.heap.size w wr)) (fun i _ => bs.length - (intOf i).toNat)
  case atStart => exact ⟨0, by omega, rfl, hS1, hX1, hB1⟩
  case round =>
    obtain ⟨j, hj, rfl, hS2, hX2, hB2⟩ := hrel
    clear hS1 hX1 hB1
    by_cases hlt : j < bs.length
    · obtain ⟨ad, A0, c0, A3, c3, e, d0, d1, d2, d3, l0, g0, l3, g3⟩ := at_T58 hl.out (j : Int) (by omega) (by omega)
      cases e
      simp only [Int.toNat_natCast] at d0 d1 d2 d3
      replace d0 := (hB2.out.cell (World.block_lt_of_cell? w _ d0)).trans d0
      replace d1 := (hB2.out.cell (World.block_lt_of_cell? w _ d1)).trans d1
      replace d2 := (hB2.out.cell (World.block_lt_of_cell? w _ d2)).trans d2
      replace d3 := (hB2.out.cell (World.block_lt_of_cell? w _ d3)).trans d3
      have g3 := Aside0.mk g3
      have hnext : Aside0 (predsTo bs (j + 1) = rowP (predsTo bs j) (j : Int) (rd_T58 bs j).f3) := ⟨rfl⟩
      have hin := Aside0.mk (in0_preds bs j).one
      have hLen := predsTo_length bs j
      have hLen := Aside0.mk hLen
      have hmx3 := Kd.C_max g3.out
      generalize rd_T58 bs (j : Int) = b at *
      generalize hL0 : predsTo bs j = L0 at *
      have hL0 := Aside0.mk hL0
      clear l0 g0 l3
      have hB3 := Aside0.mk (below_step hB2.out (below_alloc (Below.refl wr.heap.size wr) (bb b A0 A3 c0 c3)))
      have hX3 := Aside0.mk (blk_alloc hX2.out (bb b A0 A3 c0 c3))
      have hS3 := Aside0.mk (Kd.S_alloc hS2.out (bb b A0 A3 c0 c3))
      have hY3 := Aside0.mk (blk_new wr (bb b A0 A3 c0 c3))
      have hXY : w.heap.size < wr.heap.size := blk_lt hX2.out
      clear hB2 hX2 hS2
      go_wp2
      have hn1 : bs.length - 1 ≤ bs.length := by omega
      have hwn : IntKind.i64.wrap ((bs.length : Int) - 1) = (bs.length : Int) - 1 := IntWalk.i64_in _ (by omega)
      generalize hYs : wr.heap.size = Y at *
      clear hYs hn1
      go_loopw [23] (fun i wq => ∃ q : Nat, q ≤ b.f3.length ∧ i = .int .i64 q ∧ Aside0 (LL wq w.heap.size (.slice AO bs.length cO) (rowP L0 (j : Int) (b.f3.take q))) ∧ Aside0 (wq.heap[w.heap.size]? = some (fb nm pa re sl (some ad) bs.length c)) ∧ Aside0 (wq.heap[Y]? = some (bb b A0 A3 c0 c3)) ∧ Aside0 (Below w.heap.size w wq)) (fun i _ => b.f3.length - (intOf i).toNat)
      case atStart => exact ⟨0, by omega, rfl, ⟨hS3.out⟩, hX3, hY3, hB3⟩
      case round =>
        obtain ⟨q, hq, rfl, hSq, hXq, hYq, hBq⟩ := hrel
        clear hS3 hX3 hY3 hB3
        by_cases hqt : q < b.f3.length
        · obtain ⟨a3, e, y0⟩ := Kd.at_int g3.out q (by omega) (by omega)
          cases e
          simp only [Int.toNat_natCast] at y0
          replace y0 := (hBq.out.cell (World.block_lt_of_cell? w _ y0)).trans y0
          have hst := Aside0.mk (rowP_snoc L0 (j : Int) b.f3 q hqt)
          have hin1 := Aside0.mk (In1.row (b.f3.take q) hin.out)
          have hLl : (rowP L0 (j : Int) (b.f3.take q)).length = bs.length := by rw [rowP_length]; exact hLen.out
          have hLl := Aside0.mk hLl
          generalize rowP L0 (j : Int) (b.f3.take q) = L at *
          generalize rd b.f3 (q : Int) = y at *
          have hwq := Aside0.mk (fun w => within y 0 ((bs.length : Int) - 1) w)
          cases hin2 : wi y 0 ((bs.length : Int) - 1)
          · rw [hin2] at hwq
            have hst2 : Aside0 (rowP L0 (j : Int) (b.f3.take (q + 1)) = L) := ⟨by
              rw [hst.out]
              unfold stepP
              rw [if_neg]
              rw [hLl.out]
              unfold wi at hin2
              simp at hin2
              omega⟩
            clear hst hin1 hLl hin2
            go_wp2
            go_quiet ((go_at_call 25; exact Calls.quiet_of_same ((hwq.out _).mono fun _ _ h => ⟨h.1, h.2.symm⟩)))
            go_wp2
            exact ⟨⟨q + 1, by omega, by go_num, ⟨by rw [hst2.out]; exact Kd.S_drewN hSq.out _⟩, hXq, hYq, ⟨bdn hBq.out _⟩⟩, by simp [intOf]; omega⟩
          · rw [hin2] at hwq
            have hyr : 0 ≤ y ∧ y < bs.length := by unfold wi at hin2; simp at hin2; omega
            clear hin2
            obtain ⟨y00, hyt⟩ := hyr
            obtain ⟨t, rfl⟩ := Int.eq_ofNat_of_zero_le y00
            have ht : t < bs.length := by omega
            obtain ⟨gO, cO', eO, hgb, hgl, cells, hgo⟩ := Kd.S_form hSq.out (by rw [hLl.out]; omega)
            rw [hLl.out] at eO
            cases eO
            obtain ⟨oki, A4, c4, hR, hc4, hlc, hC, hH⟩ := LL.take hSq.out t ht
            have hmem := hin1.out _ (getD_in (by rw [hLl.out]; exact ht : t < L.length))
            have hstp : stepP L (j : Int) (t : Int) = if (j : Int) ∈ L.getD t [] then L else L.set t (L.getD t [] ++ [(j : Int)]) := by
              unfold stepP
              rw [if_pos ⟨by omega, by rw [hLl.out]; omega⟩, Int.toNat_natCast]
            have hlast := In1.last hin1.out (by rw [hLl.out]; exact ht : t < L.length)
            have hlenb : Aside0 ((L.getD t []).length ≤ j + 1) := ⟨by
              rcases hmem with ⟨_, h⟩ | ⟨l0, e, _, h⟩
              · omega
              · rw [e]; simp; omega⟩
            have hgX : Aside0 (w.heap.size ≠ gO) := ⟨fun e => by rw [← e, hXq.out] at hgo; cases hgo⟩
            have hgY : Aside0 (Y ≠ gO) := ⟨fun e => by rw [← e, hYq.out] at hgo; cases hgo⟩
            have hap := add_plain gO t
            have hR := Aside0.mk hR
            have hC := Aside0.mk hC
            have hH := Aside0.mk hH
            clear hmem hgo hin1
            generalize hlt1 : L.getD t [] = lt at *
            have hlt0 := Aside0.mk hlt1
            clear hlt1
            by_cases hz : lt.length = 0
            · have hlt2 : lt = [] := List.eq_nil_of_length_eq_zero hz
              have hst2 : Aside0 (rowP L0 (j : Int) (b.f3.take (q + 1)) = L.set t (lt ++ [(j : Int)])) := ⟨by rw [hst.out, hstp, if_neg (by rw [hlt2]; simp)]⟩
              have hz1 : ((lt.length : Int) == 0) = true := by simp [hz]
              clear hst hstp hlast hz hlt2 hC
              go_wp2
              go_quiet ((go_at_call 25; exact Calls.quiet_of_same ((hwq.out _).mono fun _ _ h => ⟨h.1, h.2.symm⟩)))
              have hSz := Aside0.mk (Kd.S_drewN hSq.out nq)
              have hRz := Aside0.mk (Kd.R_drewN hR.out nq)
              have hHz := Aside0.mk (Kd.H_drewN hH.out nq)
              have hXz : Aside0 ((wr.drewN nq).heap[w.heap.size]? = some (fb nm pa re sl (some ad) bs.length c)) := ⟨hXq.out⟩
              have hYz : Aside0 ((wr.drewN nq).heap[Y]? = some (bb b A0 (some a3) c0 c3)) := ⟨hYq.out⟩
              have hBz := Aside0.mk (bdn hBq.out nq)
              have hc4z : (wr.drewN nq).cell? ⟨gO, t, none⟩ = some (.slice A4 lt.length c4) := hc4
              clear hSq hR hH hXq hYq hBq hc4
              generalize wr.drewN nq = wz at *
              go_wp2_with (at_builtin; go_loud ((refine Kd.R_append (Kd.int .i64) (w0 := w) w.heap.size rfl (.tmp 61) (.tmp 63) 41 3 (.int .i64 0) 8 rfl Try.underlying41 info3' rfl (by decide) (by omega) (.slice A4 lt.length c4) lt (j : Int) [.int .i64 j] (fun k => oki k ∨ wz.heap.size ≤ k) (fun _ => False) rfl rfl ?aP (fun _ hk => hk.elim) ?aF ?aO ?aB ?aS ?aL ?_; (case aP => exact rfl); (case aB => exact hBz.out); (case aF => exact fun k hk => .inr (by simpa using hk)); (case aO => exact Kd.R_mono hRz.out (fun _ hk => .inl hk)); (case aS => exact below_size hBz.out); (case aL => have := hlenb.out; omega); intro v1 w1 ho hb hg hat; have hput := Aside0.mk (LL.put (N := wz.heap.size) hHz.out ht (by rw [hlt0.out]; exact hRz.out) hg ho (Nat.le_refl _)); have hX5 := Aside0.mk (blk_grown hXz.out hg (Kd.R_ne hRz.out hXz.out (by decide))); have hY5 := Aside0.mk (blk_grown hYz.out hg (Kd.R_ne hRz.out hYz.out (by decide))); have hB5 := Aside0.mk hb; have hx5 := hput.out.2.1; have hf5 := hput.out.2.2.1; obtain ⟨A5, c5, rfl⟩ := Kd.R_slice ho; simp only [List.length_append, List.length_cons, List.length_nil, Nat.zero_add] at hput; clear ho hb hg hat)))
              exact ⟨⟨q + 1, by omega, by go_num, ⟨by rw [hst2.out]; exact hput.out.1⟩, ⟨blk_grown hX5.out hput.out.2.2.2 (by intro e; injection e with e; exact hgX.out e)⟩, ⟨blk_grown hY5.out hput.out.2.2.2 (by intro e; injection e with e; exact hgY.out e)⟩, ⟨hB5.out.setCell hgb _⟩⟩, by simp [intOf]; omega⟩
            · have hz1 : ((lt.length : Int) == 0) = false := beq_eq_false_iff_ne.mpr (by omega)
              obtain ⟨a4, e4, x0⟩ := Kd.at_int hC.out ((lt.length - 1 : Nat) : Int) (by omega) (by omega)
              cases e4
              simp only [Int.toNat_natCast] at x0
              have hlast := hlast (by omega)
              generalize rd lt ((lt.length - 1 : Nat) : Int) = x at *
              have hwl : IntKind.i64.wrap ((lt.length : Int) - 1) = ((lt.length - 1 : Nat) : Int) := by rw [IntWalk.i64_in _ (by have := hlenb.out; omega)]; omega
              have hq0 : ((lt.length - 1 : Nat) : Int) < (lt.length : Int) := by omega
              have hq1 : lt.length - 1 < lt.length := by omega
              by_cases hx : x = (j : Int)
              · have hst2 : Aside0 (rowP L0 (j : Int) (b.f3.take (q + 1)) = L) := ⟨by rw [hst.out, hstp, if_pos (hlast.2 hx)]⟩
                subst hx
                clear hst hstp hlast hC hz
                go_wp2
                go_quiet ((go_at_call 25; exact Calls.quiet_of_same ((hwq.out _).mono fun _ _ h => ⟨h.1, h.2.symm⟩)))
                go_wp2
                exact ⟨⟨q + 1, by omega, by go_num, ⟨by rw [hst2.out]; exact Kd.S_drewN hSq.out _⟩, hXq, hYq, ⟨bdn hBq.out _⟩⟩, by simp [intOf]; omega⟩
              · have hst2 : Aside0 (rowP L0 (j : Int) (b.f3.take (q + 1)) = L.set t (lt ++ [(j : Int)])) := ⟨by rw [hst.out, hstp, if_neg (fun h => hx (hlast.1 h))]⟩
                have hx1 : (x == (j : Int)) = false := by simpa using hx
                have hx2 : (x != (j : Int)) = true := by simpa using hx
                clear hst hstp hlast hC hz hx
                go_wp2
                go_quiet ((go_at_call 25; exact Calls.quiet_of_same ((hwq.out _).mono fun _ _ h => ⟨h.1, h.2.symm⟩)))
                have hSz := Aside0.mk (Kd.S_drewN hSq.out nq)
                have hRz := Aside0.mk (Kd.R_drewN hR.out nq)
                have hHz := Aside0.mk (Kd.H_drewN hH.out nq)
                have hXz : Aside0 ((wr.drewN nq).heap[w.heap.size]? = some (fb nm pa re sl (some ad) bs.length c)) := ⟨hXq.out⟩
                have hYz : Aside0 ((wr.drewN nq).heap[Y]? = some (bb b A0 (some a3) c0 c3)) := ⟨hYq.out⟩
                have hBz := Aside0.mk (bdn hBq.out nq)
                have hc4z : (wr.drewN nq).cell? ⟨gO, t, none⟩ = some (.slice (some a4) lt.length c4) := hc4
                clear hSq hR hH hXq hYq hBq hc4
                generalize wr.drewN nq = wz at *
                go_wp2_with (at_builtin; go_loud ((refine Kd.R_append (Kd.int .i64) (w0 := w) w.heap.size rfl (.tmp 61) (.tmp 63) 41 3 (.int .i64 0) 8 rfl Try.underlying41 info3' rfl (by decide) (by omega) (.slice (some a4) lt.length c4) lt (j : Int) [.int .i64 j] (fun k => oki k ∨ wz.heap.size ≤ k) (fun _ => False) rfl rfl ?aP (fun _ hk => hk.elim) ?aF ?aO ?aB ?aS ?aL ?_; (case aP => exact rfl); (case aB => exact hBz.out); (case aF => exact fun k hk => .inr (by simpa using hk)); (case aO => exact Kd.R_mono hRz.out (fun _ hk => .inl hk)); (case aS => exact below_size hBz.out); (case aL => have := hlenb.out; omega); intro v1 w1 ho hb hg hat; have hput := Aside0.mk (LL.put (N := wz.heap.size) hHz.out ht (by rw [hlt0.out]; exact hRz.out) hg ho (Nat.le_refl _)); have hX5 := Aside0.mk (blk_grown hXz.out hg (Kd.R_ne hRz.out hXz.out (by decide))); have hY5 := Aside0.mk (blk_grown hYz.out hg (Kd.R_ne hRz.out hYz.out (by decide))); have hB5 := Aside0.mk hb; have hx5 := hput.out.2.1; have hf5 := hput.out.2.2.1; obtain ⟨A5, c5, rfl⟩ := Kd.R_slice ho; simp only [List.length_append, List.length_cons, List.length_nil, Nat.zero_add] at hput; clear ho hb hg hat)))
                exact ⟨⟨q + 1, by omega, by go_num, ⟨by rw [hst2.out]; exact hput.out.1⟩, ⟨blk_grown hX5.out hput.out.2.2.2 (by intro e; injection e with e; exact hgX.out e)⟩, ⟨blk_grown hY5.out hput.out.2.2.2 (by intro e; injection e with e; exact hgY.out e)⟩, ⟨hB5.out.setCell hgb _⟩⟩, by simp [intOf]; omega⟩
        · obtain rfl : q = b.f3.length := by omega
          rw [List.take_length] at hSq
          go_wp2
          exact ⟨⟨j + 1, by omega, by go_num, ⟨by rw [hnext.out]; exact hSq.out⟩, hXq, hBq⟩, by simp [intOf]; omega⟩
    · obtain rfl : j = bs.length := by omega
      go_wp2
      go_ret
      exact ⟨_, rfl, hS2.out, hB2.out⟩
end Go.Proofs.Ytobikiffjanagaa.IrA
end
section
namespace Go.Proofs.Ytobikiffjanagaa.IrA
open Go.RowKit Go.Proofs.YtobikiffjanagaaW.PrintWords Go.Proofs.YtobikiffjanagaaW.PrintLast Go.Proofs.YtobikiffjanagaaW.PrintMore Go.Proofs.Ytobikiffjanagaa.GF
set_option linter.unusedVariables false
set_option linter.unusedSimpArgs false
theorem range_all (p : Nat → Bool) (q : Nat) : (List.range (q + 1)).all p = ((List.range q).all p && p q) := by rw [List.range_succ, List.all_append]; simp
theorem range_no {p : Nat → Bool} {n q : Nat} (h : q < n) (hp : p q = false) : (List.range n).all p = false := by
  rw [← Bool.not_eq_true, List.all_eq_true]
  intro hh
  have := hh q (by simpa using h)
  rw [hp] at this
  cases this
def ahead (l : List S44) (q : Nat) : Bool := (l.take q).all fun x => x.f0 == 12
theorem ahead_succ (l : List S44) (q : Nat) (h : q < l.length) : ahead l (q + 1) = (ahead l q && (l.getD q z44).f0 == 12) := by
  unfold ahead
  rw [List.take_succ_eq_append_getElem h, List.all_append, List.getD_eq_getElem?_getD, List.getElem?_eq_getElem h]
  simp
def okAt (re : Int) (fs : List S33) (glob sl : Int) (ps : List (List Int)) (blk : Nat) (l : List S44) (q : Nat) : Bool := isB re fs glob sl ps blk (l.getD q z44) (pt (l.getD q z44).f0) && !((l.getD q z44).f0 == 12 && !ahead l q)
def codeTo (re : Int) (fs : List S33) (glob sl : Int) (ps : List (List Int)) (blk : Nat) (l : List S44) (q : Nat) : Bool := (List.range q).all (okAt re fs glob sl ps blk l)
def codesB (re : Int) (fs : List S33) (glob sl : Int) (bs : List S58) (j : Nat) : Bool := (List.range j).all fun i => codeTo re fs glob sl (predsP bs) i (bs.getD i z58).f0 (bs.getD i z58).f0.length
def sumTo (bs : List S58) (j : Nat) : Nat := ((bs.take j).map fun b => b.f0.length).sum
def endsTo (re : Int) (bs : List S58) (j : Nat) : Bool := (List.range j).all fun i => endB re bs.length (bs.getD i z58)
def sizesB (pa re sl : Int) (bs : List S58) : Bool := wi (bs.length : Int) 1 4096 && (wi pa 0 12 && (wi re pa 65536 && (wi sl 0 65536 && sl % 4 == 0)))
def checkB (fs : List S33) (glob pa re sl : Int) (bs : List S58) : Bool :=
  sizesB pa re sl bs && (endsTo re bs bs.length && (decide (sumTo bs bs.length ≤ 65536) && (((predsP bs).getD 0 []).length == 0 && codesB re fs glob sl bs bs.length)))
theorem sumTo_succ (bs : List S58) (j : Nat) (h : j < bs.length) : sumTo bs (j + 1) = sumTo bs j + (bs.getD j z58).f0.length := by
  unfold sumTo
  rw [List.take_succ_eq_append_getElem h, List.map_append, List.sum_append, List.getD_eq_getElem?_getD, List.getElem?_eq_getElem h]
  simp
/-- Numbers of their kinds, lists that memory can bear. -/
def gd44 (x : S44) : Prop := -2147483648 ≤ x.f3 ∧ x.f3 ≤ 2147483647
def gd58 (b : S58) : Prop := b.f0.length ≤ 17592186044416 ∧ ∀ x ∈ b.f0, gd44 x
theorem sumTo_le (bs : List S58) (hg : ∀ b ∈ bs, gd58 b) : ∀ j, j ≤ bs.length → sumTo bs j ≤ j * 17592186044416
  | 0, _ => by simp [sumTo]
  | j + 1, h => by
    rw [sumTo_succ bs j (by omega)]
    have := sumTo_le bs hg j (by omega)
    have h2 := (hg (bs.getD j z58) (by rw [List.getD_eq_getElem?_getD, List.getElem?_eq_getElem (by omega)]; exact List.getElem_mem (by omega))).1
    omega
/-- A program's values. -/
abbrev pv (A0 : Option Addr) (n0 c0 : Nat) (glob : Int) (A2 : Option Addr) (n2 c2 : Nat) (main : Int) : Value := .agg #[.slice A0 n0 c0, .int .i64 glob, .slice A2 n2 c2, .int .i64 main]
abbrev pb (A0 : Option Addr) (n0 c0 : Nat) (glob : Int) (A2 : Option Addr) (n2 c2 : Nat) (main : Int) : Obj := .cells #[.slice A0 n0 c0, .int .i64 glob, .slice A2 n2 c2, .int .i64 main] 25 (0, 0)
variable {w : World} {A0 A2 A8 : Option Addr} {n0 c0 n2 c2 c8 : Nat} {glob main pa re sl : Int} {nm : ByteArray} {fs : List S33} {bs : List S58}
def cer (b : Bool) : Int := if b = true then 0 else 1
set_option maxHeartbeats 16000000 in
set_option maxRecDepth 100000 in
theorem checkFunc_no (h : sizesB pa re sl bs = false) : Calls Try.prog 12 #[pv A0 n0 c0 glob A2 n2 c2 main, fv nm pa re sl A8 bs.length c8] w (RetB (.int .i64 1) w) := by
  have hB : Aside0 (Below w.heap.size w ((w.alloc (pb A0 n0 c0 glob A2 n2 c2 main)).alloc (fb nm pa re sl A8 bs.length c8))) := ⟨below_alloc (below_alloc (Below.refl _ _) _) _⟩
  unfold sizesB at h
  cases h1 : wi (bs.length : Int) 1 4096
  · have q1 := Aside0.mk (within (bs.length : Int) 1 4096)
    rw [h1] at q1
    clear h h1
    go_enter Try.func12, Try.ntmps12
    go_wp2_with ((with_reducible refine (q1.out _).mono ?_); rintro e w' ⟨rfl, rfl⟩)
    go_ret
    exact ⟨rfl, hB.out⟩
  have q1 := Aside0.mk (within (bs.length : Int) 1 4096)
  rw [h1] at q1 h
  clear h1
  have q2 := Aside0.mk (within pa 0 12)
  cases h2 : wi pa 0 12
  · rw [h2] at q2
    clear h h2
    go_enter Try.func12, Try.ntmps12
    go_wp2_with (first | ((with_reducible refine (q1.out _).mono ?_); rintro e w' ⟨rfl, rfl⟩) | ((with_reducible refine (q2.out _).mono ?_); rintro e w' ⟨rfl, rfl⟩))
    go_ret
    exact ⟨rfl, hB.out⟩
  rw [h2] at q2 h
  clear h2
  have q3 := Aside0.mk (within re pa 65536)
  cases h3 : wi re pa 65536
  · rw [h3] at q3
    clear h h3
    go_enter Try.func12, Try.ntmps12
    go_wp2_with (first | ((with_reducible refine (q1.out _).mono ?_); rintro e w' ⟨rfl, rfl⟩) | ((with_reducible refine (q2.out _).mono ?_); rintro e w' ⟨rfl, rfl⟩) | ((with_reducible refine (q3.out _).mono ?_); rintro e w' ⟨rfl, rfl⟩))
    go_ret
    exact ⟨rfl, hB.out⟩
  rw [h3] at q3 h
  clear h3
  have q4 := Aside0.mk (within sl 0 65536)
  cases h4 : wi sl 0 65536
  · rw [h4] at q4
    clear h h4
    go_enter Try.func12, Try.ntmps12
    go_wp2_with (first | ((with_reducible refine (q1.out _).mono ?_); rintro e w' ⟨rfl, rfl⟩) | ((with_reducible refine (q2.out _).mono ?_); rintro e w' ⟨rfl, rfl⟩) | ((with_reducible refine (q3.out _).mono ?_); rintro e w' ⟨rfl, rfl⟩) | ((with_reducible refine (q4.out _).mono ?_); rintro e w' ⟨rfl, rfl⟩))
    go_ret
    exact ⟨rfl, hB.out⟩
  rw [h4] at q4 h
  have hs : 0 ≤ sl ∧ sl ≤ 65536 := by unfold wi at h4; simp at h4; omega
  obtain ⟨hs0, hs1⟩ := hs
  clear h4
  have h5 : (sl % 4 != 0) = true := by simpa using h
  have h6 : ¬ (sl % 4 = 0) := by simpa using h
  clear h
  go_enter Try.func12, Try.ntmps12
  go_wp2_with (first | ((with_reducible refine (q1.out _).mono ?_); rintro e w' ⟨rfl, rfl⟩) | ((with_reducible refine (q2.out _).mono ?_); rintro e w' ⟨rfl, rfl⟩) | ((with_reducible refine (q3.out _).mono ?_); rintro e w' ⟨rfl, rfl⟩) | ((with_reducible refine (q4.out _).mono ?_); rintro e w' ⟨rfl, rfl⟩))
  go_ret
  exact ⟨rfl, hB.out⟩
theorem getD_mem {α : Type} (l : List α) (d : α) (i : Nat) (h : i < l.length) : l.getD i d ∈ l := by
  rw [List.getD_eq_getElem?_getD, List.getElem?_eq_getElem h]
  exact List.getElem_mem h
theorem T58_nat (bs : List S58) (j : Nat) : rd_T58 bs (j : Int) = bs.getD j z58 := by simp [rd_T58]
theorem T44_nat (l : List S44) (j : Nat) : rd_T44 l (j : Int) = l.getD j z44 := by simp [rd_T44]
set_option maxHeartbeats 16000000 in
set_option maxRecDepth 100000 in
theorem checkFunc_yes (h : sizesB pa re sl bs = true) (hgd : Aside0 (∀ b ∈ bs, gd58 b)) (hn : fs.length = n0) (hf : Aside0 (Kd.C k33 w A0 n0 fs)) (hb : Aside0 (Kd.C k58 w A8 bs.length bs)) :
    Calls Try.prog 12 #[pv A0 n0 c0 glob A2 n2 c2 main, fv nm pa re sl A8 bs.length c8] w (RetB (.int .i64 (cer (checkB fs glob pa re sl bs))) w) := by
  have hB : Aside0 (Below w.heap.size w ((w.alloc (pb A0 n0 c0 glob A2 n2 c2 main)).alloc (fb nm pa re sl A8 bs.length c8))) := ⟨below_alloc (below_alloc (Below.refl _ _) _) _⟩
  have hfin : Aside0 (checkB fs glob pa re sl bs = (endsTo re bs bs.length && (decide (sumTo bs bs.length ≤ 65536) && (((predsP bs).getD 0 []).length == 0 && codesB re fs glob sl bs bs.length)))) := ⟨by unfold checkB; rw [h]; rfl⟩
  unfold sizesB at h
  have q1 := Aside0.mk (within (bs.length : Int) 1 4096)
  have q2 := Aside0.mk (within pa 0 12)
  have q3 := Aside0.mk (within re pa 65536)
  have q4 := Aside0.mk (within sl 0 65536)
  simp only [Bool.and_eq_true, beq_iff_eq] at h
  obtain ⟨h1, h2, h3, h4, h5⟩ := h
  rw [h1] at q1
  rw [h2] at q2
  rw [h3] at q3
  rw [h4] at q4
  have hs : (1 ≤ bs.length ∧ bs.length ≤ 4096) ∧ 0 ≤ re ∧ re ≤ 65536 ∧ 0 ≤ sl ∧ sl ≤ 65536 := by unfold wi at h1 h2 h3 h4; simp at h1 h2 h3 h4; omega
  obtain ⟨⟨n1, n4⟩, re0, re1, sl0, sl1⟩ := hs
  clear h1 h2 h3 h4
  have h6 : (sl % 4 != 0) = false := by simp [h5]
  clear h5
  let c : Ckr := ⟨A0, n0, c0, glob, .slice A2 n2 c2, main, nm, pa, re, sl, A8, bs.length, c8, .slice none 0 0⟩
  have hg1 : Aside0 ((((w.alloc (pb A0 n0 c0 glob A2 n2 c2 main)).alloc (fb nm pa re sl A8 bs.length c8)).alloc c.obj).heap[w.heap.size + 1 + 1]? = some c.obj) := ⟨by have := blk_new ((w.alloc (pb A0 n0 c0 glob A2 n2 c2 main)).alloc (fb nm pa re sl A8 bs.length c8)) c.obj; simp only [World.size_alloc] at this; exact this⟩
  have hF1 : Aside0 ((((w.alloc (pb A0 n0 c0 glob A2 n2 c2 main)).alloc (fb nm pa re sl A8 bs.length c8)).alloc c.obj).heap[w.heap.size + 1]? = some (fb nm pa re sl A8 bs.length c8)) := ⟨by have := blk_new (w.alloc (pb A0 n0 c0 glob A2 n2 c2 main)) (fb nm pa re sl A8 bs.length c8); simp only [World.size_alloc] at this; exact blk_alloc this _⟩
  have hB1 : Aside0 (Below w.heap.size w (((w.alloc (pb A0 n0 c0 glob A2 n2 c2 main)).alloc (fb nm pa re sl A8 bs.length c8)).alloc c.obj)) := ⟨below_step hB.out (below_alloc (Below.refl _ _) _)⟩
  have hsum0 : Aside0 (sumTo bs 0 = 0) := ⟨rfl⟩
  clear hB
  go_enter Try.func12, Try.ntmps12
  go_wp2_with (first | ((with_reducible refine (q1.out _).mono ?_); rintro e w' ⟨rfl, rfl⟩) | ((with_reducible refine (q2.out _).mono ?_); rintro e w' ⟨rfl, rfl⟩) | ((with_reducible refine (q3.out _).mono ?_); rintro e w' ⟨rfl, rfl⟩) | ((with_reducible refine (q4.out _).mono ?_); rintro e w' ⟨rfl, rfl⟩))
  go_loopw [7, 52] (fun s i wr => ∃ j : Nat, j ≤ bs.length ∧ i = .int .i64 j ∧ s = .int .i64 (sumTo bs j : Nat) ∧ Aside0 (wr.heap[w.heap.size + 1 + 1]? = some c.obj) ∧ Aside0 (wr.heap[w.heap.size + 1]? = some (fb nm pa re sl A8 bs.length c8)) ∧ Aside0 (Below w.heap.size w wr) ∧ Aside0 (endsTo re bs j = true)) (fun _ i _ => bs.length - (intOf i).toNat)
  case atStart => exact ⟨0, by omega, rfl, rfl, hg1, hF1, hB1, ⟨rfl⟩⟩
  case round =>
    obtain ⟨j, hj, rfl, rfl, hg2, hF2, hB2, hE2⟩ := hrel
    clear hg1 hF1 hB1
    have hsl := sumTo_le bs hgd.out j hj
    by_cases hlt : j < bs.length
    · obtain ⟨ad, B0, d0, B3, d3, e, x0, x1, x2, x3, l0, g0, l3, g3⟩ := at_T58 hb.out (j : Int) (by omega) (by omega)
      cases e
      simp only [Int.toNat_natCast] at x0 x1 x2 x3
      replace x0 := (hB2.out.cell (World.block_lt_of_cell? w _ x0)).trans x0
      replace x1 := (hB2.out.cell (World.block_lt_of_cell? w _ x1)).trans x1
      replace x2 := (hB2.out.cell (World.block_lt_of_cell? w _ x2)).trans x2
      replace x3 := (hB2.out.cell (World.block_lt_of_cell? w _ x3)).trans x3
      have hss := sumTo_succ bs j hlt
      have hgb := (hgd.out (bs.getD j z58) (getD_mem bs z58 j hlt)).1
      have hes := range_all (fun i => endB re bs.length (bs.getD i z58)) j
      have heno := range_no (p := fun i => endB re bs.length (bs.getD i z58)) hlt
      rw [T58_nat] at x0 x1 x2 x3 l0 g0 l3 g3
      try dsimp only at hes heno
      generalize bs.getD j z58 = b at *
      have g3 := Aside0.mk (Kd.C_below g3 (below_step hB2.out (below_alloc (Below.refl wr.heap.size wr) (bb b B0 B3 d0 d3))))
      clear g0 l0 l3
      have hg3 := Aside0.mk (blk_alloc hg2.out (bb b B0 B3 d0 d3))
      have hF3 := Aside0.mk (blk_alloc hF2.out (bb b B0 B3 d0 d3))
      have hB3 := Aside0.mk (below_step hB2.out (below_alloc (Below.refl wr.heap.size wr) (bb b B0 B3 d0 d3)))
      have hend := Aside0.mk (end_ (c := c) hg3 b B0 B3 d0 d3 re0 re1 (by show bs.length ≤ 65536; omega) g3)
      have hss := Aside0.mk hss
      have hwr : ((sumTo bs j : Nat) : Int) + (b.f0.length : Int) ≤ 9223372036854775807 := by omega
      cases hv : endB re bs.length b
      · have hend : Aside0 (Calls Try.prog 27 #[P (w.heap.size + 1 + 1), bv b B0 B3 d0 d3] (wr.alloc (bb b B0 B3 d0 d3)) (RetB (.bool false) (wr.alloc (bb b B0 B3 d0 d3)))) := ⟨by rw [← hv]; exact hend.out⟩
        have hres : Aside0 (cer (checkB fs glob pa re sl bs) = 1) := ⟨by rw [hfin.out, show endsTo re bs bs.length = false from heno hv]; rfl⟩
        clear hes heno hv hF2 hg2 hB2
        go_wp2_with fail
        (with_reducible refine hend.out.mono ?_)
        rintro e w5 ⟨rfl, hb5⟩
        have hB5 := Aside0.mk (below_step hB3.out hb5)
        clear hb5
        go_wp2
        go_ret
        rw [hres.out]
        exact ⟨rfl, hB5.out⟩
      · have hend : Aside0 (Calls Try.prog 27 #[P (w.heap.size + 1 + 1), bv b B0 B3 d0 d3] (wr.alloc (bb b B0 B3 d0 d3)) (RetB (.bool true) (wr.alloc (bb b B0 B3 d0 d3)))) := ⟨by rw [← hv]; exact hend.out⟩
        have hE3 : Aside0 (endsTo re bs (j + 1) = true) := ⟨by have := hE2.out; unfold endsTo at this ⊢; rw [hes, this, hv]; rfl⟩
        clear hes heno hv hF2 hg2 hB2
        go_wp2_with fail
        (with_reducible refine hend.out.mono ?_)
        rintro e w5 ⟨rfl, hb5⟩
        have hB5 := Aside0.mk (below_step hB3.out hb5)
        have hg5 := Aside0.mk ((hb5.block _ (blk_lt hg3.out)).trans hg3.out)
        have hF5 := Aside0.mk ((hb5.block _ (blk_lt hF3.out)).trans hF3.out)
        clear hb5
        go_wp2
        exact ⟨⟨j + 1, by omega, by go_num, by rw [hss.out]; go_num, hg5, hF5, hB5, hE3⟩, by simp [intOf]; omega⟩
    · obtain rfl : j = bs.length := by omega
      have hfin2 : Aside0 (checkB fs glob pa re sl bs = (decide (sumTo bs bs.length ≤ 65536) && (((predsP bs).getD 0 []).length == 0 && codesB re fs glob sl bs bs.length))) := ⟨by rw [hfin.out, hE2.out]; rfl⟩
      have y0 : wr.cell? ⟨w.heap.size + 1, 0, none⟩ = some (.string nm) := (blk_cell hF2.out 0).trans rfl
      have y1 : wr.cell? ⟨w.heap.size + 1, 1, none⟩ = some (.int .i64 pa) := (blk_cell hF2.out 1).trans rfl
      have y2 : wr.cell? ⟨w.heap.size + 1, 2, none⟩ = some (.int .i64 re) := (blk_cell hF2.out 2).trans rfl
      have y3 : wr.cell? ⟨w.heap.size + 1, 3, none⟩ = some (.int .i64 sl) := (blk_cell hF2.out 3).trans rfl
      have y4 : wr.cell? ⟨w.heap.size + 1, 4, none⟩ = some (.slice A8 bs.length c8) := (blk_cell hF2.out 4).trans rfl
      clear hE2 hfin q1 q2 q3 q4 hsum0
      go_wp2_with fail
      (with_reducible refine (preds nm pa re sl A8 c8 bs ⟨Kd.C_below hb.out hB2.out⟩ (by omega)).mono ?_)
      rintro e w5 ⟨v, rfl, hL, hb5⟩
      have hg5 := (hb5.block _ (blk_lt hg2.out)).trans hg2.out
      have hF5 := (hb5.block _ (blk_lt hF2.out)).trans hF2.out
      have hB5 := below_step hB2.out hb5
      have hPl : (predsP bs).length = bs.length := predsTo_length bs _
      obtain ⟨A9, c9, e9⟩ := Kd.S_slice hL
      rw [hPl] at e9
      subst e9
      let c' : Ckr := ⟨A0, n0, c0, glob, .slice A2 n2 c2, main, nm, pa, re, sl, A8, bs.length, c8, .slice A9 bs.length c9⟩
      have hg6 : Aside0 ((w5.setCell ⟨w.heap.size + 1 + 1, 9, none⟩ (.slice A9 bs.length c9)).heap[w.heap.size + 1 + 1]? = some c'.obj) := ⟨blk_put hg5 9 _ rfl⟩
      have hF6 : Aside0 ((w5.setCell ⟨w.heap.size + 1 + 1, 9, none⟩ (.slice A9 bs.length c9)).heap[w.heap.size + 1]? = some (fb nm pa re sl A8 bs.length c8)) := ⟨(Below.heap_setCell _ _ _ _ (by show w.heap.size + 1 ≠ w.heap.size + 1 + 1; omega)).trans hF5⟩
      have hB6 : Aside0 (Below w.heap.size w (w5.setCell ⟨w.heap.size + 1 + 1, 9, none⟩ (.slice A9 bs.length c9))) := ⟨hB5.setCell (by show w.heap.size ≤ w.heap.size + 1 + 1; omega) _⟩
      have hL6 := Kd.S_set hL hg5 (by decide) 9 (.slice A9 bs.length c9)
      have hC6 := Aside0.mk (Kd.S_reads' hL6)
      obtain ⟨gO, cO', eO, hgb, hgl, cells, hgo⟩ := Kd.S_form hL6 (by rw [hPl]; omega)
      rw [hPl] at eO
      cases eO
      have k9 : w5.cell? ⟨w.heap.size + 1 + 1, 9, none⟩ = some (.slice none 0 0) := (blk_cell hg5 9).trans rfl
      have f9 : w5.frozen? ⟨w.heap.size + 1 + 1, 9, none⟩ = false := blk_frozen hg5 9
      clear hL6 hL hg5 hF5 hB5 hb5 hg2 hF2 hB2 y0 y1 y2 y3 y4 hgo
      go_upto_region 14 with (fail)
      clear k9 f9
      generalize w5.setCell ⟨w.heap.size + 1 + 1, 9, none⟩ (.slice (some ⟨gO, 0, none⟩) bs.length c9) = W6 at *
      obtain ⟨ad9, B9, d9, e9, z0, _, _⟩ := atL hC6.out.2.2 0 (by omega)
      cases e9
      have hap := add_plain gO 0
      have k9 : W6.cell? ⟨w.heap.size + 1 + 1, 9, none⟩ = some (.slice (some ⟨gO, 0, none⟩) bs.length c9) := (blk_cell hg6.out 9).trans rfl
      rw [hap] at z0
      generalize hS : sumTo bs bs.length = S at *
      generalize hP0 : ((predsP bs).getD 0 []).length = p0 at *
      have hsl2 : S ≤ bs.length * 17592186044416 := hsl
      by_cases hs6 : S ≤ 65536
      · by_cases hp : p0 = 0
        · have hp1 : decide ((0 : Int) < (p0 : Int)) = false := by simp [hp]
          have hp2 : decide (0 < p0) = false := by simp [hp]
          have hfin3 : Aside0 (checkB fs glob pa re sl bs = codesB re fs glob sl bs bs.length) := ⟨by rw [hfin2.out, hp]; simp [hs6]⟩
          have hS := Aside0.mk hS
          have hP0 := Aside0.mk hP0
          have y4 : W6.cell? ⟨w.heap.size + 1, 4, none⟩ = some (.slice A8 bs.length c8) := (blk_cell hF6.out 4).trans rfl
          clear hp hfin2
          go_wp2
          clear y4 z0 k9 hp1 hp2 hs6 hsl2 hsl
          go_loopw [86] (fun i wr => ∃ j : Nat, j ≤ bs.length ∧ i = .int .i64 j ∧ Aside0 (Below W6.heap.size W6 wr) ∧ Aside0 (codesB re fs glob sl bs j = true)) (fun i _ => bs.length - (intOf i).toNat)
          case atStart => exact ⟨0, by omega, rfl, ⟨Below.refl _ _⟩, ⟨rfl⟩⟩
          case round =>
            obtain ⟨j, hj, rfl, hW, hK⟩ := hrel
            by_cases hlt : j < bs.length
            · obtain ⟨ad, B0, d0, B3, d3, e, x0, x1, x2, x3, l0, g0, l3, g3⟩ := at_T58 hb.out (j : Int) (by omega) (by omega)
              cases e
              simp only [Int.toNat_natCast] at x0 x1 x2 x3
              have bw := below_step hB6.out hW.out
              replace x0 := (bw.cell (World.block_lt_of_cell? w _ x0)).trans x0
              replace x1 := (bw.cell (World.block_lt_of_cell? w _ x1)).trans x1
              replace x2 := (bw.cell (World.block_lt_of_cell? w _ x2)).trans x2
              replace x3 := (bw.cell (World.block_lt_of_cell? w _ x3)).trans x3
              have hgb := (hgd.out (bs.getD j z58) (getD_mem bs z58 j hlt)).2
              have hcs := range_all (fun i => codeTo re fs glob sl (predsP bs) i (bs.getD i z58).f0 (bs.getD i z58).f0.length) j
              have hcno := range_no (p := fun i => codeTo re fs glob sl (predsP bs) i (bs.getD i z58).f0 (bs.getD i z58).f0.length) hlt
              rw [T58_nat] at x0 x1 x2 x3 l0 g0 l3 g3
              try dsimp only at hcs hcno
              generalize bs.getD j z58 = b at *
              have hgb := Aside0.mk hgb
              have g0 := Aside0.mk g0
              have hmx := Kd.C_max g0.out
              have hW2 := Aside0.mk (below_step hW.out (below_alloc (Below.refl wr.heap.size wr) (bb b B0 B3 d0 d3)))
              have hcs := Aside0.mk hcs
              have hcno := Aside0.mk hcno
              clear g3 l0 l3 bw hW
              go_wp2
              clear x0 x1 x2 x3
              go_loopw [12, 94] (fun s i wq => ∃ q : Nat, q ≤ b.f0.length ∧ i = .int .i64 q ∧ s = .bool (ahead b.f0 q) ∧ Aside0 (Below W6.heap.size W6 wq) ∧ Aside0 (codeTo re fs glob sl (predsP bs) j b.f0 q = true)) (fun _ i _ => b.f0.length - (intOf i).toNat)
              case atStart => exact ⟨0, by omega, rfl, rfl, hW2, ⟨rfl⟩⟩
              case round =>
                obtain ⟨q, hq, rfl, rfl, hQ, hC⟩ := hrel
                clear hW2
                by_cases hqt : q < b.f0.length
                · obtain ⟨a4, B2, e2, B6, e6, e, u0, u1, u2, u3, u4, u5, u6, m2, M2, m6, M6⟩ := at_T44 g0.out (q : Int) (by omega) (by omega)
                  cases e
                  simp only [Int.toNat_natCast] at u0 u1 u2 u3 u4 u5 u6
                  have bw := below_step hB6.out hQ.out
                  replace u0 := (bw.cell (World.block_lt_of_cell? w _ u0)).trans u0
                  replace u1 := (bw.cell (World.block_lt_of_cell? w _ u1)).trans u1
                  replace u2 := (bw.cell (World.block_lt_of_cell? w _ u2)).trans u2
                  replace u3 := (bw.cell (World.block_lt_of_cell? w _ u3)).trans u3
                  replace u4 := (bw.cell (World.block_lt_of_cell? w _ u4)).trans u4
                  replace u5 := (bw.cell (World.block_lt_of_cell? w _ u5)).trans u5
                  replace u6 := (bw.cell (World.block_lt_of_cell? w _ u6)).trans u6
                  have hok : okAt re fs glob sl (predsP bs) j b.f0 q = (isB re fs glob sl (predsP bs) j (b.f0.getD q z44) (pt (b.f0.getD q z44).f0) && !((b.f0.getD q z44).f0 == 12 && !ahead b.f0 q)) := rfl
                  have hstp := range_all (okAt re fs glob sl (predsP bs) j b.f0) q
                  have hno := range_no (p := okAt re fs glob sl (predsP bs) j b.f0) hqt
                  have hah := ahead_succ b.f0 q hqt
                  have hgx := hgb.out _ (getD_mem b.f0 z44 q hqt)
                  rw [T44_nat] at u0 u1 u2 u3 u4 u5 u6 m2 M2 m6 M6
                  generalize b.f0.getD q z44 = x at *
                  obtain ⟨gx0, gx1⟩ := hgx
                  have bA := below_alloc (Below.refl wr.heap.size wr) (ib x B2 B6 e2 e6)
                  have bw2 := below_step bw bA
                  have bq2 := below_step hQ.out bA
                  have hin := Aside0.mk (instr (w := wr.alloc (ib x B2 B6 e2 e6)) (g := w.heap.size + 1 + 1) (c := c') ⟨(bq2.block _ (blk_lt hg6.out)).trans hg6.out⟩ x B2 B6 e2 e6 j (pt x.f0) ⟨shape x.f0⟩ re0 re1 gx0 gx1 fs hn ⟨Kd.C_below hf.out bw2⟩ ⟨Kd.C_below M2 bw2⟩ ⟨Kd.C_below M6 bw2⟩ m2 m6 (some ⟨gO, 0, none⟩) c9 (predsP bs) (by show Value.slice _ bs.length c9 = _; rw [hPl]) ⟨Kd.C_below hC6.out.2.2 bq2⟩ (by rw [hPl]; exact hlt))
                  have hI := Aside0.mk (blk_new wr (ib x B2 B6 e2 e6))
                  have hQ2 := Aside0.mk bq2
                  clear m2 M2 m6 M6 bw bA bw2 bq2 hQ
                  have hin : Aside0 (Calls Try.prog 28 #[P (w.heap.size + 1 + 1), iv x B2 B6 e2 e6, .int .i64 j] (wr.alloc (ib x B2 B6 e2 e6)) (RetB (.bool (isB re fs glob sl (predsP bs) j x (pt x.f0))) (wr.alloc (ib x B2 B6 e2 e6)))) := hin
                  have hlI : wr.heap.size < (wr.alloc (ib x B2 B6 e2 e6)).heap.size := by simp
                  generalize hiv : isB re fs glob sl (predsP bs) j x (pt x.f0) = iv at *
                  cases iv
                  · have hres : Aside0 (cer (checkB fs glob pa re sl bs) = 1) := ⟨by
                      rw [hfin3.out, show codesB re fs glob sl bs bs.length = false from hcno.out (hno (by rw [hok]; rfl))]
                      rfl⟩
                    clear hok hstp hno hah hcs hcno hiv
                    go_wp2_with fail
                    (with_reducible refine hin.out.mono ?_)
                    rintro e w7 ⟨rfl, b7⟩
                    have hQ7 := Aside0.mk (below_step hQ2.out b7)
                    clear b7
                    go_wp2
                    go_ret
                    rw [hres.out]
                    exact ⟨rfl, below_step hB6.out hQ7.out⟩
                  · cases h12 : (x.f0 == 12)
                    · have hah2 : Aside0 (ahead b.f0 (q + 1) = false) := ⟨by rw [hah, h12]; simp⟩
                      have hC2 : Aside0 (codeTo re fs glob sl (predsP bs) j b.f0 (q + 1) = true) := ⟨by
                        have h := hC.out
                        unfold codeTo at h ⊢
                        rw [hstp, h, hok, h12]
                        rfl⟩
                      generalize hav : ahead b.f0 q = av at *
                      clear hok hstp hno hah hiv hav
                      cases av
                      all_goals
                        go_wp2_with fail
                        (with_reducible refine hin.out.mono ?_)
                        rintro e w7 ⟨rfl, b7⟩
                        have hQ7 := Aside0.mk (below_step hQ2.out b7)
                        have v0 : w7.cell? ⟨wr.heap.size, 0, none⟩ = some (.int .i64 x.f0) := (blk_cell ((b7.block _ (blk_lt hI.out)).trans hI.out) 0).trans rfl
                        clear b7
                        go_wp2
                        exact ⟨⟨q + 1, by omega, by go_num, by rw [hah2.out], hQ7, hC2⟩, by simp [intOf]; omega⟩
                    · generalize hav : ahead b.f0 q = av at *
                      cases av
                      · have hres : Aside0 (cer (checkB fs glob pa re sl bs) = 1) := ⟨by
                          rw [hfin3.out, show codesB re fs glob sl bs bs.length = false from hcno.out (hno (by rw [hok, h12]; rfl))]
                          rfl⟩
                        clear hok hstp hno hah hcs hcno hiv hav
                        go_wp2_with fail
                        (with_reducible refine hin.out.mono ?_)
                        rintro e w7 ⟨rfl, b7⟩
                        have hQ7 := Aside0.mk (below_step hQ2.out b7)
                        have v0 : w7.cell? ⟨wr.heap.size, 0, none⟩ = some (.int .i64 x.f0) := (blk_cell ((b7.block _ (blk_lt hI.out)).trans hI.out) 0).trans rfl
                        clear b7
                        go_wp2
                        go_ret
                        rw [hres.out]
                        exact ⟨rfl, below_step hB6.out hQ7.out⟩
                      · have hah2 : Aside0 (ahead b.f0 (q + 1) = true) := ⟨by rw [hah, h12]; rfl⟩
                        have hC2 : Aside0 (codeTo re fs glob sl (predsP bs) j b.f0 (q + 1) = true) := ⟨by
                          have h := hC.out
                          unfold codeTo at h ⊢
                          rw [hstp, h, hok, h12]
                          rfl⟩
                        clear hok hstp hno hah hiv hav
                        go_wp2_with fail
                        (with_reducible refine hin.out.mono ?_)
                        rintro e w7 ⟨rfl, b7⟩
                        have hQ7 := Aside0.mk (below_step hQ2.out b7)
                        have v0 : w7.cell? ⟨wr.heap.size, 0, none⟩ = some (.int .i64 x.f0) := (blk_cell ((b7.block _ (blk_lt hI.out)).trans hI.out) 0).trans rfl
                        clear b7
                        go_wp2
                        exact ⟨⟨q + 1, by omega, by go_num, by rw [hah2.out], hQ7, hC2⟩, by simp [intOf]; omega⟩
                · obtain rfl : q = b.f0.length := by omega
                  have hK2 : Aside0 (codesB re fs glob sl bs (j + 1) = true) := ⟨by have h := hK.out; unfold codesB at h ⊢; rw [hcs.out, h, hC.out]; rfl⟩
                  go_wp2
                  exact ⟨⟨j + 1, by omega, by go_num, hQ, hK2⟩, by simp [intOf]; omega⟩
            · obtain rfl : j = bs.length := by omega
              have hres : Aside0 (cer (checkB fs glob pa re sl bs) = 0) := ⟨by rw [hfin3.out, hK.out]; rfl⟩
              go_wp2
              go_ret
              rw [hres.out]
              exact ⟨rfl, below_step hB6.out hW.out⟩
        · have hp1 : decide ((0 : Int) < (p0 : Int)) = true := by simp; omega
          have hp2 : decide (0 < p0) = true := by simp; omega
          have hres : Aside0 (cer (checkB fs glob pa re sl bs) = 1) := ⟨by rw [hfin2.out, show (p0 == 0) = false by simp [hp]]; simp [cer]⟩
          clear hS hP0 hp hfin2
          go_wp2
          go_ret
          rw [hres.out]
          exact ⟨rfl, hB6.out⟩
      · have hres : Aside0 (cer (checkB fs glob pa re sl bs) = 1) := ⟨by rw [hfin2.out, show decide (S ≤ 65536) = false by simp [hs6]]; rfl⟩
        have hs7 : 65536 < S := by omega
        clear hS hP0 hfin2 hs6
        go_wp2
        go_ret
        rw [hres.out]
        exact ⟨rfl, hB6.out⟩
end Go.Proofs.Ytobikiffjanagaa.IrA
end
section
namespace Go.Proofs.Ytobikiffjanagaa.IrA
open Go.RowKit Go.Proofs.YtobikiffjanagaaW.PrintWords Go.Proofs.YtobikiffjanagaaW.PrintLast Go.Proofs.YtobikiffjanagaaW.PrintMore Go.Proofs.Ytobikiffjanagaa.GF
set_option linter.unusedVariables false
set_option linter.unusedSimpArgs false
theorem rd_at (l : List Int) (j : Nat) (h : j < l.length) : rd l (j : Int) = l[j] := by simp [rd, List.getD_eq_getElem?_getD, List.getElem?_eq_getElem h]
theorem rd_mem (l : List Int) (j : Nat) (h : j < l.length) : rd l (j : Int) ∈ l := by rw [rd_at l j h]; exact List.getElem_mem h
theorem mem_take_succ (l : List Int) (j : Nat) (h : j < l.length) (n : Int) : n ∈ l.take (j + 1) ↔ n ∈ l.take j ∨ n = rd l (j : Int) := by
  rw [rd_at l j h, List.take_succ_eq_append_getElem h, List.mem_append, List.mem_singleton]
set_option maxHeartbeats 4000000 in
set_option maxRecDepth 100000 in
theorem rhas {w : World} {A : Option Addr} {c : Nat} {l : List Int} (n : Int) (hl : Aside0 (Kd.C (Kd.int .i64) w A l.length l)) : Calls Try.prog 31 #[.slice A l.length c, .int .i64 n] w (Ret (.bool (decide (n ∈ l))) w) := by
  have hmx := Kd.C_max hl.out
  go_enter Try.func31, Try.ntmps31
  go_wp2
  go_loop [5] (fun i => ∃ j : Nat, j ≤ l.length ∧ i = .int .i64 j ∧ Aside0 (¬ n ∈ l.take j)) (fun i => l.length - (intOf i).toNat)
  case atStart => exact ⟨0, by omega, rfl, ⟨by simp⟩⟩
  case round =>
    obtain ⟨j, hj, rfl, ht⟩ := hrel
    by_cases hlt : j < l.length
    · obtain ⟨ad, e, a0⟩ := Kd.at_int hl.out j (by omega) (by omega)
      cases e
      simp only [Int.toNat_natCast] at a0
      have hs := Aside0.mk (mem_take_succ l j hlt n)
      have hm := Aside0.mk (rd_mem l j hlt)
      generalize rd l (j : Int) = y at *
      by_cases hy : y = n
      · subst hy
        have hd : Aside0 (decide (y ∈ l) = true) := ⟨by simp [hm.out]⟩
        clear hs hm
        go_wp2
        go_ret
        rw [hd.out]
        exact ⟨rfl, rfl⟩
      · have hy1 : (y == n) = false := by simpa using hy
        have ht2 : Aside0 (¬ n ∈ l.take (j + 1)) := ⟨by rw [hs.out]; rintro (h | h); exact ht.out h; exact hy h.symm⟩
        clear hs hm hy ht
        go_wp2
        go_round
        case rel => exact ⟨j + 1, by omega, by go_num, ht2⟩
        case measure => simp [intOf]; omega
    · obtain rfl : j = l.length := by omega
      have hd : Aside0 (decide (n ∈ l) = false) := ⟨by have := ht.out; rw [List.take_length] at this; simp [this]⟩
      clear ht
      go_wp2
      go_ret
      rw [hd.out]
      exact ⟨rfl, rfl⟩
set_option maxHeartbeats 16000000 in
set_option maxRecDepth 100000 in
theorem rpreds {w : World} (nm : ByteArray) (pa re sl : Int) (A : Option Addr) (c : Nat) (bs : List S58) (hl : Aside0 (Kd.C k58 w A bs.length bs)) (hn : bs.length ≤ 2199023255552) :
    Calls Try.prog 15 #[fv nm pa re sl A bs.length c] w (RetL (predsP bs) w) := by
  have hX : Aside0 ((w.alloc (fb nm pa re sl A bs.length c)).heap[w.heap.size]? = some (fb nm pa re sl A bs.length c)) := ⟨blk_new w _⟩
  have hB : Aside0 (Below w.heap.size w (w.alloc (fb nm pa re sl A bs.length c))) := ⟨below_alloc (Below.refl _ _) _⟩
  go_enter Try.func15, Try.ntmps15
  go_wp2_with ((with_reducible refine gate_dst (N := 10) rfl ?_); refine Kd.S_make KL (w0 := w.alloc (fb nm pa re sl A bs.length c)) _ 41 rfl (N := 10) rfl 36 _ _ rfl (bs.length : Int) rfl rfl Try.underlying36 (.slice none 0 0) 24 info41' rfl (by decide) (by omega) [] (ok := fun _ => True) (okp := fun _ => True) ⟨_, rfl, Kd.R_nil _ _ _ _ _⟩ (fun _ h => h) trivial (by omega) (by omega) (Below.refl _ _) (Nat.le_refl _) ?_; intro v1 w1 hS hb hg hat; have hX1 := Aside0.mk (blk_grown hX.out hg (by simp)); have hB1 := Aside0.mk (below_step hB.out hb); have hS1 : Aside0 (LL w1 w.heap.size v1 (predsTo bs 0)) := ⟨Kd.S_lower (by rw [Int.toNat_natCast] at hS; exact hS) hB.out.size⟩; obtain ⟨AO, cO, eO⟩ := Kd.S_slice hS; rw [Int.toNat_natCast, List.length_replicate] at eO; subst eO; have k4 : w1.cell? ⟨w.heap.size, 4, none⟩ = some (.slice A bs.length c) := (blk_cell hX1.out 4).trans rfl; clear hS hb hg hat hX hB)
  go_loopw [4] (fun i wr => ∃ j : Nat, j ≤ bs.length ∧ i = .int .i64 j ∧ Aside0 (LL wr w.heap.size (.slice AO bs.length cO) (predsTo bs j)) ∧ Aside0 (wr.heap[w.heap.size]? = some (fb nm pa re sl A bs.length c)) ∧ Aside0 (Below w.heap.size w wr)) (fun i _ => bs.length - (intOf i).toNat)
  case atStart => exact ⟨0, by omega, rfl, hS1, hX1, hB1⟩
  case round =>
    obtain ⟨j, hj, rfl, hS2, hX2, hB2⟩ := hrel
    clear hS1 hX1 hB1
    by_cases hlt : j < bs.length
    · obtain ⟨ad, A0, c0, A3, c3, e, d0, d1, d2, d3, l0, g0, l3, g3⟩ := at_T58 hl.out (j : Int) (by omega) (by omega)
      cases e
      simp only [Int.toNat_natCast] at d0 d1 d2 d3
      have g3 := Aside0.mk g3
      have hd3 := Aside0.mk d3
      replace d3 := (hB2.out.cell (World.block_lt_of_cell? w _ d3)).trans d3
      have hnext : Aside0 (predsTo bs (j + 1) = rowP (predsTo bs j) (j : Int) (rd_T58 bs j).f3) := ⟨rfl⟩
      have hin := Aside0.mk (in0_preds bs j).one
      have hLen := predsTo_length bs j
      have hLen := Aside0.mk hLen
      have hmx3 := Kd.C_max g3.out
      generalize rd_T58 bs (j : Int) = b at *
      generalize hL0 : predsTo bs j = L0 at *
      have hL0 := Aside0.mk hL0
      clear l0 g0 l3 d0 d1 d2
      have k4 : wr.cell? ⟨w.heap.size, 4, none⟩ = some (.slice (some ad) bs.length c) := (blk_cell hX2.out 4).trans rfl
      go_wp2
      clear k4 d3
      go_loopw [5] (fun i wq => ∃ q : Nat, q ≤ b.f3.length ∧ i = .int .i64 q ∧ Aside0 (LL wq w.heap.size (.slice AO bs.length cO) (rowP L0 (j : Int) (b.f3.take q))) ∧ Aside0 (wq.heap[w.heap.size]? = some (fb nm pa re sl (some ad) bs.length c)) ∧ Aside0 (Below w.heap.size w wq)) (fun i _ => b.f3.length - (intOf i).toNat)
      case atStart => exact ⟨0, by omega, rfl, ⟨hS2.out⟩, hX2, hB2⟩
      case round =>
        obtain ⟨q, hq, rfl, hSq, hXq, hBq⟩ := hrel
        clear hS2 hX2 hB2
        have k4 : wr.cell? ⟨w.heap.size, 4, none⟩ = some (.slice (some ad) bs.length c) := (blk_cell hXq.out 4).trans rfl
        have d3 := (hBq.out.cell (World.block_lt_of_cell? w _ hd3.out)).trans hd3.out
        by_cases hqt : q < b.f3.length
        · obtain ⟨a3, e, y0⟩ := Kd.at_int g3.out q (by omega) (by omega)
          cases e
          simp only [Int.toNat_natCast] at y0
          replace y0 := (hBq.out.cell (World.block_lt_of_cell? w _ y0)).trans y0
          have hst := Aside0.mk (rowP_snoc L0 (j : Int) b.f3 q hqt)
          have hin1 := Aside0.mk (In1.row (b.f3.take q) hin.out)
          have hLl : (rowP L0 (j : Int) (b.f3.take q)).length = bs.length := by rw [rowP_length]; exact hLen.out
          have hLl := Aside0.mk hLl
          generalize rowP L0 (j : Int) (b.f3.take q) = L at *
          generalize rd b.f3 (q : Int) = y at *
          by_cases hyr : 0 ≤ y ∧ y < bs.length
          · obtain ⟨y00, hyt⟩ := hyr
            obtain ⟨t, rfl⟩ := Int.eq_ofNat_of_zero_le y00
            have ht : t < bs.length := by omega
            obtain ⟨gO, cO', eO, hgb, hgl, cells, hgo⟩ := Kd.S_form hSq.out (by rw [hLl.out]; omega)
            rw [hLl.out] at eO
            cases eO
            obtain ⟨oki, A4, c4, hR, hc4, hlc, hC, hH⟩ := LL.take hSq.out t ht
            have hmem := hin1.out _ (getD_in (by rw [hLl.out]; exact ht : t < L.length))
            have hstp : stepP L (j : Int) (t : Int) = if (j : Int) ∈ L.getD t [] then L else L.set t (L.getD t [] ++ [(j : Int)]) := by
              unfold stepP
              rw [if_pos ⟨by omega, by rw [hLl.out]; omega⟩, Int.toNat_natCast]
            have hlenb : Aside0 ((L.getD t []).length ≤ j + 1) := ⟨by
              rcases hmem with ⟨_, h⟩ | ⟨l0, e, _, h⟩
              · omega
              · rw [e]; simp; omega⟩
            have hgX : Aside0 (w.heap.size ≠ gO) := ⟨fun e => by rw [← e, hXq.out] at hgo; cases hgo⟩
            have hap := add_plain gO t
            have hR := Aside0.mk hR
            have hC := Aside0.mk hC
            have hH := Aside0.mk hH
            clear hmem hgo hin1
            generalize hlt1 : L.getD t [] = lt at *
            have hlt0 := Aside0.mk hlt1
            clear hlt1
            have hhas := Aside0.mk (rhas (c := c4) (j : Int) hC)
            by_cases hx : (j : Int) ∈ lt
            · have hst2 : Aside0 (rowP L0 (j : Int) (b.f3.take (q + 1)) = L) := ⟨by rw [hst.out, hstp, if_pos hx]⟩
              have hd := Aside0.mk (show decide ((j : Int) ∈ lt) = true by simp [hx])
              rw [hd.out] at hhas
              clear hst hstp hC hx hd
              go_wp2_with ((with_reducible refine hhas.out.mono ?_); rintro e w' ⟨rfl, rfl⟩)
              exact ⟨⟨q + 1, by omega, by go_num, ⟨by rw [hst2.out]; exact hSq.out⟩, hXq, hBq⟩, by simp [intOf]; omega⟩
            · have hst2 : Aside0 (rowP L0 (j : Int) (b.f3.take (q + 1)) = L.set t (lt ++ [(j : Int)])) := ⟨by rw [hst.out, hstp, if_neg hx]⟩
              have hd := Aside0.mk (show decide ((j : Int) ∈ lt) = false by simp [hx])
              rw [hd.out] at hhas
              clear hst hstp hC hx hd
              go_wp2_with (first | ((with_reducible refine hhas.out.mono ?_); rintro e w' ⟨rfl, rfl⟩) | (at_builtin; go_loud ((refine Kd.R_append (Kd.int .i64) (w0 := w) w.heap.size rfl (.tmp 61) (.tmp 63) 41 3 (.int .i64 0) 8 rfl Try.underlying41 info3' rfl (by decide) (by omega) (.slice A4 lt.length c4) lt (j : Int) [.int .i64 j] (fun k => oki k ∨ wr.heap.size ≤ k) (fun _ => False) rfl rfl ?aP (fun _ hk => hk.elim) ?aF ?aO ?aB ?aS ?aL ?_; (case aP => exact rfl); (case aB => exact hBq.out); (case aF => exact fun k hk => .inr (by simpa using hk)); (case aO => exact Kd.R_mono hR.out (fun _ hk => .inl hk)); (case aS => exact below_size hBq.out); (case aL => have := hlenb.out; omega); intro v1 w1 ho hb hg hat; have hput := Aside0.mk (LL.put (N := wr.heap.size) hH.out ht (by rw [hlt0.out]; exact hR.out) hg ho (Nat.le_refl _)); have hX5 := Aside0.mk (blk_grown hXq.out hg (Kd.R_ne hR.out hXq.out (by decide))); have hB5 := Aside0.mk hb; have hx5 := hput.out.2.1; have hf5 := hput.out.2.2.1; obtain ⟨A5, c5, rfl⟩ := Kd.R_slice ho; simp only [List.length_append, List.length_cons, List.length_nil, Nat.zero_add] at hput; clear ho hb hg hat))))
              exact ⟨⟨q + 1, by omega, by go_num, ⟨by rw [hst2.out]; exact hput.out.1⟩, ⟨blk_grown hX5.out hput.out.2.2.2 (by intro e; injection e with e; exact hgX.out e)⟩, ⟨hB5.out.setCell hgb _⟩⟩, by simp [intOf]; omega⟩
          · have hst2 : Aside0 (rowP L0 (j : Int) (b.f3.take (q + 1)) = L) := ⟨by
              rw [hst.out]
              unfold stepP
              rw [if_neg]
              rw [hLl.out]
              exact hyr⟩
            have hy2 : y < 0 ∨ (0 ≤ y ∧ (bs.length : Int) ≤ y) := by omega
            clear hst hin1 hLl hyr
            rcases hy2 with hy2 | ⟨hy2, hy3⟩
            all_goals
              go_wp2
              exact ⟨⟨q + 1, by omega, by go_num, ⟨by rw [hst2.out]; exact hSq.out⟩, hXq, hBq⟩, by simp [intOf]; omega⟩
        · obtain rfl : q = b.f3.length := by omega
          rw [List.take_length] at hSq
          go_wp2
          exact ⟨⟨j + 1, by omega, by go_num, ⟨by rw [hnext.out]; exact hSq.out⟩, hXq, hBq⟩, by simp [intOf]; omega⟩
    · obtain rfl : j = bs.length := by omega
      have k4 : wr.cell? ⟨w.heap.size, 4, none⟩ = some (.slice A bs.length c) := (blk_cell hX2.out 4).trans rfl
      go_wp2
      go_ret
      exact ⟨_, rfl, hS2.out, hB2.out⟩
end Go.Proofs.Ytobikiffjanagaa.IrA
end
section
namespace Go.Proofs.Ytobikiffjanagaa.IrA
open Go.RowKit Go.Proofs.YtobikiffjanagaaW.PrintWords Go.Proofs.YtobikiffjanagaaW.PrintLast Go.Proofs.YtobikiffjanagaaW.PrintMore Go.Proofs.Ytobikiffjanagaa.GF
set_option linter.unusedVariables false
set_option linter.unusedSimpArgs false
/-- Whether an operation has a Dst: -1, 0, 1. -/
def rdn (op : Int) : Int := if op = 7 ∨ op = 8 ∨ op = 11 then -1 else if op = 9 then 0 else if (pt op).is = true then 1 else 0
def ShR (op : Int) (w : World) : Prop := Calls Try.prog 47 #[.int .i64 op] w (Ret (.tuple #[.int .i64 (pt op).n, .int .i64 (rdn op), .bool (pt op).is]) w)
set_option maxHeartbeats 4000000 in
set_option maxRecDepth 100000 in
theorem rshape_at (op : Int) (h : op = 1 ∨ op = 2 ∨ op = 3 ∨ op = 4 ∨ op = 5 ∨ op = 6 ∨ op = 7 ∨ op = 8 ∨ op = 9 ∨ op = 10 ∨ op = 11 ∨ op = 12) (w : World) : ShR op w := by
  unfold ShR
  rcases h with rfl | rfl | rfl | rfl | rfl | rfl | rfl | rfl | rfl | rfl | rfl | rfl
  all_goals
    go_enter Try.func47, Try.ntmps47
    go_wp2
    go_ret3
    exact ⟨rfl, rfl⟩
set_option maxHeartbeats 4000000 in
set_option maxRecDepth 100000 in
theorem rshape_no (op : Int) (h1 : (op == 1) = false) (h2 : (op == 2) = false) (h3 : (op == 3) = false) (h4 : (op == 4) = false) (h5 : (op == 5) = false) (h6 : (op == 6) = false) (h7 : (op == 7) = false) (h8 : (op == 8) = false) (h9 : (op == 9) = false) (h10 : (op == 10) = false) (h11 : (op == 11) = false) (h12 : (op == 12) = false) (w : World) :
    Calls Try.prog 47 #[.int .i64 op] w (Ret (.tuple #[.int .i64 0, .int .i64 0, .bool false]) w) := by
  go_enter Try.func47, Try.ntmps47
  go_wp2
  go_ret3
  exact ⟨rfl, rfl⟩
theorem pt_no (op : Int) (h : ¬ (op = 1 ∨ op = 2 ∨ op = 3 ∨ op = 4 ∨ op = 5 ∨ op = 6 ∨ op = 7 ∨ op = 8 ∨ op = 9 ∨ op = 10 ∨ op = 11 ∨ op = 12)) : pt op = ⟨false, 0, false, false, false, false, false⟩ := by
  unfold pt
  rw [if_neg (by omega), if_neg (by omega), if_neg (by omega), if_neg (by omega), if_neg (by omega), if_neg (by omega), if_neg (by omega), if_neg (by omega), if_neg (by omega), if_neg (by omega)]
theorem rshape (op : Int) (w : World) : ShR op w := by
  by_cases h : op = 1 ∨ op = 2 ∨ op = 3 ∨ op = 4 ∨ op = 5 ∨ op = 6 ∨ op = 7 ∨ op = 8 ∨ op = 9 ∨ op = 10 ∨ op = 11 ∨ op = 12
  · exact rshape_at op h w
  · have e2 : rdn op = 0 := by unfold rdn; rw [if_neg (by omega), if_neg (by omega), pt_no op h]; rfl
    unfold ShR
    rw [e2, pt_no op h]
    refine rshape_no op ?_ ?_ ?_ ?_ ?_ ?_ ?_ ?_ ?_ ?_ ?_ ?_ w <;> simp <;> omega
theorem ShR.call {op : Int} {w : World} (h : ShR op w) : Calls Try.prog 47 #[.int .i64 op] w (Ret (.tuple #[.int .i64 (pt op).n, .int .i64 (rdn op), .bool (pt op).is]) w) := h
set_option maxHeartbeats 4000000 in
set_option maxRecDepth 100000 in
theorem rreg {w : World} (nm : ByteArray) (pa re sl : Int) (A : Option Addr) (n c : Nat) (r : Int) : Calls Try.prog 48 #[fv nm pa re sl A n c, .int .i64 r] w (RetB (.bool (wi r 0 (re - 1))) w) := by
  have hB : Aside0 (Below w.heap.size w (w.alloc (fb nm pa re sl A n c))) := ⟨below_alloc (Below.refl _ _) _⟩
  by_cases h : 0 ≤ r
  · have e : wi r 0 (re - 1) = decide (r < re) := by unfold wi; rw [Bool.eq_iff_iff]; simp; omega
    rw [e]
    clear e
    go_enter Try.func48, Try.ntmps48
    go_wp2
    go_ret
    exact ⟨rfl, hB.out⟩
  · have e : wi r 0 (re - 1) = false := by unfold wi; simp; omega
    rw [e]
    clear e
    go_enter Try.func48, Try.ntmps48
    go_wp2
    go_ret
    exact ⟨rfl, hB.out⟩
theorem rreg' {w : World} {v : Bool} {r re : Int} (h : wi r 0 (re - 1) = v) (nm : ByteArray) (pa sl : Int) (A : Option Addr) (n c : Nat) : Calls Try.prog 48 #[fv nm pa re sl A n c, .int .i64 r] w (RetB (.bool v) w) := by
  rw [← h]; exact rreg nm pa re sl A n c r
theorem same_drop (l r : List Int) (h : l.length = r.length) (j : Nat) (hj : j < l.length) : (l.drop j == r.drop j) = (rd l (j : Int) == rd r (j : Int) && (l.drop (j + 1) == r.drop (j + 1))) := by
  have d1 : l.drop j = l[j] :: l.drop (j + 1) := List.drop_eq_getElem_cons (by omega)
  have d2 : r.drop j = r[j] :: r.drop (j + 1) := List.drop_eq_getElem_cons (by omega)
  rw [rd_at l j hj, rd_at r j (by omega), d1, d2]
  rw [Bool.eq_iff_iff]
  simp only [beq_iff_eq, List.cons.injEq, Bool.and_eq_true]
set_option maxHeartbeats 8000000 in
set_option maxRecDepth 100000 in
theorem rsame {w : World} {A B : Option Addr} {c d : Nat} {l r : List Int} (hl : Aside0 (Kd.C (Kd.int .i64) w A l.length l)) (hr : Aside0 (Kd.C (Kd.int .i64) w B r.length r)) :
    Calls Try.prog 18 #[.slice A l.length c, .slice B r.length d] w fun e w' => e = .returned (.bool (l == r)) ∧ ∃ n, w' = w.drewN n := by
  have hmx := Kd.C_max hl.out
  by_cases hlen : l.length = r.length
  · have h1 : ((l.length : Int) != (r.length : Int)) = false := by simp [hlen]
    have h2 : (l.length != r.length) = false := by simp [hlen]
    have hle : l.length ≤ r.length := by omega
    have hle2 : r.length ≤ l.length := by omega
    have hst : Aside0 ((l.drop 0 == r.drop 0) = (l == r)) := ⟨rfl⟩
    have hlen' := Aside0.mk hlen
    clear hlen
    go_enter Try.func18, Try.ntmps18
    go_wp2
    go_loopw [5] (fun i wr => ∃ j m : Nat, j ≤ l.length ∧ i = .int .i64 j ∧ wr = w.drewN m ∧ Aside0 ((l.drop j == r.drop j) = (l == r))) (fun i _ => l.length - (intOf i).toNat)
    case atStart => exact ⟨0, 0, by omega, rfl, rfl, hst⟩
    case round =>
      obtain ⟨j, m, hj, rfl, rfl, hE⟩ := hrel
      clear hst
      by_cases hlt : j < l.length
      · obtain ⟨ad, e, x0⟩ := Kd.at_int hl.out j (by omega) (by omega)
        cases e
        obtain ⟨ae, e, y0⟩ := Kd.at_int hr.out j (by omega) (by omega)
        cases e
        simp only [Int.toNat_natCast] at x0 y0
        have hd := same_drop l r hlen'.out j hlt
        generalize rd l (j : Int) = x at *
        generalize rd r (j : Int) = y at *
        have x0 : (w.drewN m).cell? (ad.add j) = some (.int .i64 x) := x0
        have y0 : (w.drewN m).cell? (ae.add j) = some (.int .i64 y) := y0
        have hjr : j < r.length := by omega
        have hdr := Aside0.mk (fun n => World.drewN_drewN w m n)
        by_cases hxy : x = y
        · subst hxy
          have hE2 : Aside0 ((l.drop (j + 1) == r.drop (j + 1)) = (l == r)) := ⟨by rw [← hE.out, hd]; simp⟩
          have q1 : (x != x) = false := by simp
          clear hd hE
          generalize w.drewN m = w2 at *
          go_wp2
          go_quiet (fail)
          go_wp2
          exact ⟨⟨j + 1, m + nq, by omega, by go_num, by rw [hdr.out], hE2⟩, by simp [intOf]; omega⟩
        · have hE2 : Aside0 ((l == r) = false) := ⟨by rw [← hE.out, hd]; simp [hxy]⟩
          have q1 : (x != y) = true := by simpa using hxy
          clear hd hE hxy
          generalize w.drewN m = w2 at *
          go_wp2
          go_quiet (fail)
          go_wp2
          go_ret
          rw [hE2.out]
          exact ⟨rfl, _, hdr.out _⟩
      · obtain rfl : j = l.length := by omega
        have hE2 : Aside0 ((l == r) = true) := ⟨by rw [← hE.out, List.drop_of_length_le (Nat.le_refl _), List.drop_of_length_le hle2]; rfl⟩
        clear hE
        go_wp2
        go_ret
        rw [hE2.out]
        exact ⟨rfl, _, rfl⟩
  · have h1 : ((l.length : Int) != (r.length : Int)) = true := by simp; omega
    have h2 : (l.length != r.length) = true := by simp [hlen]
    have hE2 : Aside0 ((l == r) = false) := ⟨by rw [← Bool.not_eq_true, beq_iff_eq]; exact fun e => hlen (by rw [e])⟩
    clear hlen
    go_enter Try.func18, Try.ntmps18
    go_wp2
    go_ret
    rw [hE2.out]
    exact ⟨rfl, 0, rfl⟩
end Go.Proofs.Ytobikiffjanagaa.IrA
end
section
namespace Go.Proofs.Ytobikiffjanagaa.IrA
open Go.RowKit Go.Proofs.YtobikiffjanagaaW.PrintWords Go.Proofs.YtobikiffjanagaaW.PrintLast Go.Proofs.YtobikiffjanagaaW.PrintMore Go.Proofs.Ytobikiffjanagaa.GF
set_option linter.unusedVariables false
set_option linter.unusedSimpArgs false
variable {w : World} {A0 A2 A8 : Option Addr} {n0 c0 n2 c2 c8 : Nat} {glob main pa re sl : Int} {nm : ByteArray} {fs : List S33} {bs : List S58}
set_option maxHeartbeats 8000000 in
set_option maxRecDepth 100000 in
theorem rimm (n8 : Nat) (x : S44) (B2 B6 : Option Addr) (d2 d6 : Nat) (h0 : -2147483648 ≤ x.f3) (h1 : x.f3 ≤ 2147483647) (hn : fs.length = n0) (hf : Aside0 (Kd.C k33 w A0 n0 fs)) :
    Calls Try.prog 49 #[pv A0 n0 c0 glob A2 n2 c2 main, fv nm pa re sl A8 n8 c8, iv x B2 B6 d2 d6] w (RetB (.bool (immB fs glob sl x (pt x.f0).i)) w) := by
  have hB : Aside0 (Below w.heap.size w (((w.alloc (pb A0 n0 c0 glob A2 n2 c2 main)).alloc (fb nm pa re sl A8 n8 c8)).alloc (ib x B2 B6 d2 d6))) := ⟨below_alloc (below_alloc (below_alloc (Below.refl _ _) _) _) _⟩
  have hw : IntKind.i64.wrap x.f3 = x.f3 := IntWalk.i64_in _ (by omega)
  have hmx := Kd.C_max hf.out
  by_cases a1 : x.f0 = 1 ∨ x.f0 = 6 ∨ x.f0 = 7
  · have hu : Aside0 (immB fs glob sl x (pt x.f0).i = true) := ⟨by rcases a1 with e | e | e <;> simp [immB, pt, e]⟩
    rw [hu.out]
    clear hu hf
    cases q1 : (x.f0 == 1)
    · cases q6 : (x.f0 == 6)
      · have q7 : (x.f0 == 7) = true := by simp at q1 q6 ⊢; omega
        clear a1
        go_enter Try.func49, Try.ntmps49
        go_wp2
        go_ret
        exact ⟨rfl, hB.out⟩
      · clear a1
        go_enter Try.func49, Try.ntmps49
        go_wp2
        go_ret
        exact ⟨rfl, hB.out⟩
    · clear a1
      go_enter Try.func49, Try.ntmps49
      go_wp2
      go_ret
      exact ⟨rfl, hB.out⟩
  have q1 : (x.f0 == 1) = false := by simp; omega
  have q6 : (x.f0 == 6) = false := by simp; omega
  have q7 : (x.f0 == 7) = false := by simp; omega
  by_cases a4 : x.f0 = 4
  · have hu : Aside0 (immB fs glob sl x (pt x.f0).i = wi x.f3 0 glob) := ⟨by simp [immB, pt, a4]⟩
    have q4 : (x.f0 == 4) = true := by simp [a4]
    rw [hu.out]
    clear hu hf a1 a4
    by_cases hp : 0 ≤ x.f3
    · have hu : Aside0 (wi x.f3 0 glob = decide (x.f3 ≤ glob)) := ⟨by unfold wi; simp [hp]⟩
      rw [hu.out]
      go_enter Try.func49, Try.ntmps49
      go_wp2
      go_ret
      exact ⟨rfl, hB.out⟩
    · have hu : Aside0 (wi x.f3 0 glob = false) := ⟨by unfold wi; simp [hp]⟩
      rw [hu.out]
      go_enter Try.func49, Try.ntmps49
      go_wp2
      go_ret
      exact ⟨rfl, hB.out⟩
  have q4 : (x.f0 == 4) = false := by simpa using a4
  by_cases a5 : x.f0 = 5
  · have hu : Aside0 (immB fs glob sl x (pt x.f0).i = wi x.f3 0 sl) := ⟨by simp [immB, pt, a5]⟩
    have q5 : (x.f0 == 5) = true := by simp [a5]
    rw [hu.out]
    clear hu hf a1 a4 a5
    by_cases hp : 0 ≤ x.f3
    · have hu : Aside0 (wi x.f3 0 sl = decide (x.f3 ≤ sl)) := ⟨by unfold wi; simp [hp]⟩
      rw [hu.out]
      go_enter Try.func49, Try.ntmps49
      go_wp2
      go_ret
      exact ⟨rfl, hB.out⟩
    · have hu : Aside0 (wi x.f3 0 sl = false) := ⟨by unfold wi; simp [hp]⟩
      rw [hu.out]
      go_enter Try.func49, Try.ntmps49
      go_wp2
      go_ret
      exact ⟨rfl, hB.out⟩
  have q5 : (x.f0 == 5) = false := by simpa using a5
  by_cases a8 : x.f0 = 8
  · have hu : Aside0 (immB fs glob sl x (pt x.f0).i = (x.f3 == 1 || x.f3 == 2)) := ⟨by simp [immB, pt, a8]⟩
    have q8 : (x.f0 == 8) = true := by simp [a8]
    rw [hu.out]
    clear hu hf a1 a4 a5 a8
    cases hx : (x.f3 == 1)
    all_goals
      go_enter Try.func49, Try.ntmps49
      go_wp2
      go_ret
      exact ⟨rfl, hB.out⟩
  have q8 : (x.f0 == 8) = false := by simpa using a8
  by_cases a9 : x.f0 = 9
  · have hu : Aside0 (immB fs glob sl x (pt x.f0).i = (wi x.f3 0 ((fs.length : Int) - 1) && ((x.f2.length : Int) == (rd_T33 fs x.f3).f1))) := ⟨by simp [immB, pt, a9]⟩
    have q9 : (x.f0 == 9) = true := by simp [a9]
    rw [hu.out, hn]
    clear hu a1 a4 a5 a8 a9
    by_cases hp : 0 ≤ x.f3
    · by_cases hr : x.f3 < n0
      · have hu : Aside0 (wi x.f3 0 ((n0 : Int) - 1) = true) := ⟨by unfold wi; simp; omega⟩
        rw [hu.out]
        obtain ⟨ad, A4, c4, hA, _, a1, _⟩ := at_T33 hf.out x.f3 hp hr
        have hlt := World.block_lt_of_cell? w _ a1
        have a1 := (hB.out.cell hlt).trans a1
        cases hA
        clear hf hlt hu
        generalize (rd_T33 fs x.f3).f1 = y at *
        go_enter Try.func49, Try.ntmps49
        go_wp2
        go_quiet (fail)
        go_wp2
        go_ret
        exact ⟨rfl, bdn hB.out _⟩
      · have hu : Aside0 (wi x.f3 0 ((n0 : Int) - 1) = false) := ⟨by unfold wi; simp; omega⟩
        rw [hu.out]
        have g1 : decide (x.f3 < (n0 : Int)) = false := by simp; omega
        clear hf hu
        go_enter Try.func49, Try.ntmps49
        go_wp2
        go_quiet (fail)
        go_wp2
        go_ret
        exact ⟨rfl, bdn hB.out _⟩
    · have hu : Aside0 (wi x.f3 0 ((n0 : Int) - 1) = false) := ⟨by unfold wi; simp; omega⟩
      rw [hu.out]
      have g1 : decide (0 ≤ x.f3) = false := by simp; omega
      have g2 : decide (x.f3 ≥ 0) = false := by simp; omega
      clear hf hu
      go_enter Try.func49, Try.ntmps49
      go_wp2
      go_quiet (fail)
      go_wp2
      go_ret
      exact ⟨rfl, bdn hB.out _⟩
  have q9 : (x.f0 == 9) = false := by simpa using a9
  have hi : (pt x.f0).i = false := by
    unfold pt
    rw [if_neg (by omega)]
    repeat' (first | rfl | (split; omega) | split)
    all_goals omega
  have hu : Aside0 (immB fs glob sl x (pt x.f0).i = (x.f3 == 0)) := ⟨by rw [hi]; rfl⟩
  rw [hu.out]
  clear hu hf a1 a4 a5 a8 a9 hi
  go_enter Try.func49, Try.ntmps49
  go_wp2
  go_ret
  exact ⟨rfl, hB.out⟩
set_option maxHeartbeats 8000000 in
set_option maxRecDepth 100000 in
theorem rends (nm : ByteArray) (pa re sl : Int) (A : Option Addr) (n8 c : Nat) (b : S58) (B0 B3 : Option Addr) (d0 d3 : Nat) (hn8 : n8 ≤ 9223372036854775807) (hl : Aside0 (Kd.C (Kd.int .i64) w B3 b.f3.length b.f3)) :
    Calls Try.prog 30 #[fv nm pa re sl A n8 c, bv b B0 B3 d0 d3] w (RetB (.bool (endB re n8 b)) w) := by
  have hB : Aside0 (Below w.heap.size w ((w.alloc (fb nm pa re sl A n8 c)).alloc (bb b B0 B3 d0 d3))) := ⟨below_alloc (below_alloc (Below.refl _ _) _) _⟩
  have hF : Aside0 (((w.alloc (fb nm pa re sl A n8 c)).alloc (bb b B0 B3 d0 d3)).heap[w.heap.size]? = some (fb nm pa re sl A n8 c)) := ⟨blk_alloc (blk_new w _) _⟩
  have hX : Aside0 (((w.alloc (fb nm pa re sl A n8 c)).alloc (bb b B0 B3 d0 d3)).heap[w.heap.size + 1]? = some (bb b B0 B3 d0 d3)) := ⟨by have := blk_new (w.alloc (fb nm pa re sl A n8 c)) (bb b B0 B3 d0 d3); simp only [World.size_alloc] at this; exact this⟩
  have hmx := Kd.C_max hl.out
  have hE : endB re n8 b = (tosB n8 b.f3 && (if b.f1 = 1 then b.f3.length == 1 && b.f2 == 0 else if b.f1 = 2 then b.f3.length == 2 && wi b.f2 0 (re - 1) else if b.f1 = 3 then b.f3.length == 0 && (b.f2 == -1 || wi b.f2 0 (re - 1)) else false)) := rfl
  by_cases e1 : b.f1 = 1
  · rw [if_pos e1] at hE
    have q1 : (b.f1 == 1) = true := by simp [e1]
    clear e1
    cases hz : (b.f2 == 0)
    · have hres : Aside0 (endB re n8 b = false) := ⟨by rw [hE, hz]; simp⟩
      have hz2 : (b.f2 != 0) = true := by simp at hz ⊢; exact hz
      rw [hres.out]
      clear hE
      go_enter Try.func30, Try.ntmps30
      go_wp2
      go_ret
      exact ⟨rfl, hB.out⟩
    · have hz2 : (b.f2 != 0) = false := by simp at hz ⊢; exact hz
      rw [hz] at hE
      by_cases hL : b.f3.length = 1
      · have hL1 : ((b.f3.length : Int) != 1) = false := by simp [hL]
        have hEnd : Aside0 (endB re n8 b = (tosB n8 b.f3 && true)) := ⟨by rw [hE, hL]; rfl⟩
        have hLa : 1 ≤ b.f3.length := by omega
        have hLb : b.f3.length ≤ 1 := by omega
        clear hE hL
        go_enter Try.func30, Try.ntmps30
        go_wp2
        generalize hW : (w.alloc (fb nm pa re sl A n8 c)).alloc (bb b B0 B3 d0 d3) = W at *
        clear hW
        have hWb := hB
        have f4 : W.cell? ⟨w.heap.size, 4, none⟩ = some (.slice A n8 c) := (blk_cell hF.out 4).trans rfl
        have b3 : W.cell? ⟨w.heap.size + 1, 3, none⟩ = some (.slice B3 b.f3.length d3) := (blk_cell hX.out 3).trans rfl
        go_loopw [6] (fun i wr => ∃ j m : Nat, j ≤ 1 ∧ i = .int .i64 j ∧ wr = W.drewN m ∧ Aside0 (tosB n8 (b.f3.take j) = true)) (fun i _ => 1 - (intOf i).toNat)
        case atStart => exact ⟨0, 0, by omega, rfl, rfl, ⟨rfl⟩⟩
        case round =>
          obtain ⟨j, m, hj, rfl, rfl, ht⟩ := hrel
          have hdr := Aside0.mk (fun n => World.drewN_drewN W m n)
          have f4' : (W.drewN m).cell? ⟨w.heap.size, 4, none⟩ = some (.slice A n8 c) := f4
          have b3' : (W.drewN m).cell? ⟨w.heap.size + 1, 3, none⟩ = some (.slice B3 b.f3.length d3) := b3
          by_cases hlt : j < 1
          · obtain ⟨ad, e, x0⟩ := Kd.at_int hl.out j (by omega) (by omega)
            cases e
            simp only [Int.toNat_natCast] at x0
            have x0 := (hWb.out.cell (World.block_lt_of_cell? w _ x0)).trans x0
            have x0 : (W.drewN m).cell? (ad.add j) = some (.int .i64 (rd b.f3 (j : Int))) := x0
            have hst := all_take (p := fun t => wi t 0 ((n8 : Int) - 1)) (l := b.f3) (j := j) (by omega)
            have hno := all_no (p := fun t => wi t 0 ((n8 : Int) - 1)) (l := b.f3) (j := j) (by omega)
            have hjl : j < b.f3.length := by omega
            generalize rd b.f3 (j : Int) = y at *
            try dsimp only at hst hno
            by_cases hy : 0 ≤ y
            · by_cases hy2 : y < n8
              · have hv : wi y 0 ((n8 : Int) - 1) = true := by unfold wi; simp; omega
                have ht2 : Aside0 (tosB n8 (b.f3.take (j + 1)) = true) := ⟨by have := ht.out; unfold tosB at this ⊢; rw [hst, this, hv]; rfl⟩
                clear hst hno hv ht
                generalize W.drewN m = w2 at *
                go_wp2
                go_quiet (fail)
                go_wp2
                exact ⟨⟨j + 1, m + nq, by omega, by go_num, by rw [hdr.out], ht2⟩, by simp [intOf]; omega⟩
              · have hres : Aside0 (endB re n8 b = false) := ⟨by unfold endB tosB; rw [hno (by unfold wi; simp; omega)]; rfl⟩
                clear hst hno ht
                generalize W.drewN m = w2 at *
                go_wp2
                go_quiet (fail)
                go_wp2
                go_ret
                rw [hres.out, hdr.out]
                exact ⟨rfl, bdn hWb.out _⟩
            · have hres : Aside0 (endB re n8 b = false) := ⟨by unfold endB tosB; rw [hno (by unfold wi; simp; omega)]; rfl⟩
              clear hst hno ht
              generalize W.drewN m = w2 at *
              go_wp2
              go_quiet (fail)
              go_wp2
              go_ret
              rw [hres.out, hdr.out]
              exact ⟨rfl, bdn hWb.out _⟩
          · obtain rfl : j = 1 := by omega
            have ht3 : tosB n8 b.f3 = true := by have := ht.out; rw [List.take_of_length_le (by omega)] at this; exact this
            have hres : Aside0 (endB re n8 b = true) := ⟨by rw [hEnd.out, ht3]; rfl⟩
            clear ht ht3
            go_wp2
            go_ret
            rw [hres.out]
            exact ⟨rfl, bdn hWb.out _⟩
      · have hres : Aside0 (endB re n8 b = false) := ⟨by rw [hE]; simp [hL]⟩
        have hL1 : ((b.f3.length : Int) != 1) = true := by simp; omega
        rw [hres.out]
        clear hE hL
        go_enter Try.func30, Try.ntmps30
        go_wp2
        go_ret
        exact ⟨rfl, hB.out⟩
  rw [if_neg e1] at hE
  have q1 : (b.f1 == 1) = false := by simpa using e1
  clear e1
  by_cases e2 : b.f1 = 2
  · rw [if_pos e2] at hE
    have q2 : (b.f1 == 2) = true := by simp [e2]
    clear e2
    cases hz : wi b.f2 0 (re - 1)
    · have hres : Aside0 (endB re n8 b = false) := ⟨by rw [hE, hz]; simp⟩
      have hr := Aside0.mk (rreg' (w := (w.alloc (fb nm pa re sl A n8 c)).alloc (bb b B0 B3 d0 d3)) hz nm pa sl A n8 c)
      rw [hres.out]
      clear hE hz
      go_enter Try.func30, Try.ntmps30
      go_wp2_with fail
      (with_reducible refine hr.out.mono ?_)
      rintro e w5 ⟨rfl, hb5⟩
      have hB5 := Aside0.mk (below_step hB.out hb5)
      clear hb5
      go_wp2
      go_ret
      exact ⟨rfl, hB5.out⟩
    · have hr := Aside0.mk (rreg' (w := (w.alloc (fb nm pa re sl A n8 c)).alloc (bb b B0 B3 d0 d3)) hz nm pa sl A n8 c)
      rw [hz] at hE
      by_cases hL : b.f3.length = 2
      · have hL1 : ((b.f3.length : Int) != 2) = false := by simp [hL]
        have hEnd : Aside0 (endB re n8 b = (tosB n8 b.f3 && true)) := ⟨by rw [hE, hL]; rfl⟩
        have hLa : 2 ≤ b.f3.length := by omega
        have hLb : b.f3.length ≤ 2 := by omega
        clear hE hL hz
        go_enter Try.func30, Try.ntmps30
        go_wp2_with fail
        (with_reducible refine hr.out.mono ?_)
        rintro e W ⟨rfl, hb5⟩
        have hWb := Aside0.mk (below_step hB.out hb5)
        have f4 : W.cell? ⟨w.heap.size, 4, none⟩ = some (.slice A n8 c) := (blk_cell ((hb5.block _ (blk_lt hF.out)).trans hF.out) 4).trans rfl
        have b3 : W.cell? ⟨w.heap.size + 1, 3, none⟩ = some (.slice B3 b.f3.length d3) := (blk_cell ((hb5.block _ (blk_lt hX.out)).trans hX.out) 3).trans rfl
        clear hb5 hB hr hF hX
        go_wp2
        go_loopw [6] (fun i wr => ∃ j m : Nat, j ≤ 2 ∧ i = .int .i64 j ∧ wr = W.drewN m ∧ Aside0 (tosB n8 (b.f3.take j) = true)) (fun i _ => 2 - (intOf i).toNat)
        case atStart => exact ⟨0, 0, by omega, rfl, rfl, ⟨rfl⟩⟩
        case round =>
          obtain ⟨j, m, hj, rfl, rfl, ht⟩ := hrel
          have hdr := Aside0.mk (fun n => World.drewN_drewN W m n)
          have f4' : (W.drewN m).cell? ⟨w.heap.size, 4, none⟩ = some (.slice A n8 c) := f4
          have b3' : (W.drewN m).cell? ⟨w.heap.size + 1, 3, none⟩ = some (.slice B3 b.f3.length d3) := b3
          by_cases hlt : j < 2
          · obtain ⟨ad, e, x0⟩ := Kd.at_int hl.out j (by omega) (by omega)
            cases e
            simp only [Int.toNat_natCast] at x0
            have x0 := (hWb.out.cell (World.block_lt_of_cell? w _ x0)).trans x0
            have x0 : (W.drewN m).cell? (ad.add j) = some (.int .i64 (rd b.f3 (j : Int))) := x0
            have hst := all_take (p := fun t => wi t 0 ((n8 : Int) - 1)) (l := b.f3) (j := j) (by omega)
            have hno := all_no (p := fun t => wi t 0 ((n8 : Int) - 1)) (l := b.f3) (j := j) (by omega)
            have hjl : j < b.f3.length := by omega
            generalize rd b.f3 (j : Int) = y at *
            try dsimp only at hst hno
            by_cases hy : 0 ≤ y
            · by_cases hy2 : y < n8
              · have hv : wi y 0 ((n8 : Int) - 1) = true := by unfold wi; simp; omega
                have ht2 : Aside0 (tosB n8 (b.f3.take (j + 1)) = true) := ⟨by have := ht.out; unfold tosB at this ⊢; rw [hst, this, hv]; rfl⟩
                clear hst hno hv ht
                generalize W.drewN m = w2 at *
                go_wp2
                go_quiet (fail)
                go_wp2
                exact ⟨⟨j + 1, m + nq, by omega, by go_num, by rw [hdr.out], ht2⟩, by simp [intOf]; omega⟩
              · have hres : Aside0 (endB re n8 b = false) := ⟨by unfold endB tosB; rw [hno (by unfold wi; simp; omega)]; rfl⟩
                clear hst hno ht
                generalize W.drewN m = w2 at *
                go_wp2
                go_quiet (fail)
                go_wp2
                go_ret
                rw [hres.out, hdr.out]
                exact ⟨rfl, bdn hWb.out _⟩
            · have hres : Aside0 (endB re n8 b = false) := ⟨by unfold endB tosB; rw [hno (by unfold wi; simp; omega)]; rfl⟩
              clear hst hno ht
              generalize W.drewN m = w2 at *
              go_wp2
              go_quiet (fail)
              go_wp2
              go_ret
              rw [hres.out, hdr.out]
              exact ⟨rfl, bdn hWb.out _⟩
          · obtain rfl : j = 2 := by omega
            have ht3 : tosB n8 b.f3 = true := by have := ht.out; rw [List.take_of_length_le (by omega)] at this; exact this
            have hres : Aside0 (endB re n8 b = true) := ⟨by rw [hEnd.out, ht3]; rfl⟩
            clear ht ht3
            go_wp2
            go_ret
            rw [hres.out]
            exact ⟨rfl, bdn hWb.out _⟩
      · have hres : Aside0 (endB re n8 b = false) := ⟨by rw [hE]; simp [hL]⟩
        have hL1 : ((b.f3.length : Int) != 2) = true := by simp; omega
        rw [hres.out]
        clear hE hL hz
        go_enter Try.func30, Try.ntmps30
        go_wp2_with fail
        (with_reducible refine hr.out.mono ?_)
        rintro e w5 ⟨rfl, hb5⟩
        have hB5 := Aside0.mk (below_step hB.out hb5)
        have b3 : w5.cell? ⟨w.heap.size + 1, 3, none⟩ = some (.slice B3 b.f3.length d3) := (blk_cell ((hb5.block _ (blk_lt hX.out)).trans hX.out) 3).trans rfl
        clear hb5
        go_wp2
        go_ret
        exact ⟨rfl, hB5.out⟩
  rw [if_neg e2] at hE
  have q2 : (b.f1 == 2) = false := by simpa using e2
  clear e2
  by_cases e3 : b.f1 = 3
  · rw [if_pos e3] at hE
    have q3 : (b.f1 == 3) = true := by simp [e3]
    clear e3
    cases hm : (b.f2 == -1)
    · have hm2 : (b.f2 != -1) = true := by simp at hm ⊢; exact hm
      rw [hm] at hE
      cases hz : wi b.f2 0 (re - 1)
      · have hres : Aside0 (endB re n8 b = false) := ⟨by rw [hE, hz]; simp⟩
        have hr := Aside0.mk (rreg' (w := (w.alloc (fb nm pa re sl A n8 c)).alloc (bb b B0 B3 d0 d3)) hz nm pa sl A n8 c)
        rw [hres.out]
        clear hE hz
        go_enter Try.func30, Try.ntmps30
        go_wp2_with fail
        (with_reducible refine hr.out.mono ?_)
        rintro e w5 ⟨rfl, hb5⟩
        have hB5 := Aside0.mk (below_step hB.out hb5)
        clear hb5
        go_wp2
        go_ret
        exact ⟨rfl, hB5.out⟩
      · have hr := Aside0.mk (rreg' (w := (w.alloc (fb nm pa re sl A n8 c)).alloc (bb b B0 B3 d0 d3)) hz nm pa sl A n8 c)
        rw [hz] at hE
        by_cases hL : b.f3.length = 0
        · have hL1 : ((b.f3.length : Int) != 0) = false := by simp [hL]
          have hEnd : Aside0 (endB re n8 b = true) := ⟨by rw [hE, List.eq_nil_of_length_eq_zero hL]; rfl⟩
          rw [hEnd.out]
          clear hE hL hz
          go_enter Try.func30, Try.ntmps30
          go_wp2_with fail
          (with_reducible refine hr.out.mono ?_)
          rintro e W ⟨rfl, hb5⟩
          have hWb := Aside0.mk (below_step hB.out hb5)
          have b3 : W.cell? ⟨w.heap.size + 1, 3, none⟩ = some (.slice B3 b.f3.length d3) := (blk_cell ((hb5.block _ (blk_lt hX.out)).trans hX.out) 3).trans rfl
          clear hb5 hB hr hF hX
          go_wp2
          go_loop [6] (fun i => i = .int .i64 0) (fun _ => 0)
          case atStart => rfl
          case round =>
            subst hrel
            go_wp2
            go_ret
            exact ⟨rfl, hWb.out⟩
        · have hres : Aside0 (endB re n8 b = false) := ⟨by rw [hE]; simp [hL]⟩
          have hL1 : ((b.f3.length : Int) != 0) = true := bne_iff_ne.mpr (by omega)
          rw [hres.out]
          clear hE hL hz
          go_enter Try.func30, Try.ntmps30
          go_wp2_with fail
          (with_reducible refine hr.out.mono ?_)
          rintro e w5 ⟨rfl, hb5⟩
          have hB5 := Aside0.mk (below_step hB.out hb5)
          have b3 : w5.cell? ⟨w.heap.size + 1, 3, none⟩ = some (.slice B3 b.f3.length d3) := (blk_cell ((hb5.block _ (blk_lt hX.out)).trans hX.out) 3).trans rfl
          clear hb5
          go_wp2
          go_ret
          exact ⟨rfl, hB5.out⟩
    · have hm2 : (b.f2 != -1) = false := by simp at hm ⊢; exact hm
      rw [hm] at hE
      by_cases hL : b.f3.length = 0
      · have hL1 : ((b.f3.length : Int) != 0) = false := by simp [hL]
        have hEnd : Aside0 (endB re n8 b = true) := ⟨by rw [hE, List.eq_nil_of_length_eq_zero hL]; rfl⟩
        rw [hEnd.out]
        clear hE hL
        go_enter Try.func30, Try.ntmps30
        go_wp2
        go_loop [6] (fun i => i = .int .i64 0) (fun _ => 0)
        case atStart => rfl
        case round =>
          subst hrel
          go_wp2
          go_ret
          exact ⟨rfl, hB.out⟩
      · have hres : Aside0 (endB re n8 b = false) := ⟨by rw [hE]; simp [hL]⟩
        have hL1 : ((b.f3.length : Int) != 0) = true := bne_iff_ne.mpr (by omega)
        rw [hres.out]
        clear hE hL
        go_enter Try.func30, Try.ntmps30
        go_wp2
        go_ret
        exact ⟨rfl, hB.out⟩
  · have q3 : (b.f1 == 3) = false := by simpa using e3
    have hres : Aside0 (endB re n8 b = false) := ⟨by rw [hE, if_neg e3]; simp⟩
    rw [hres.out]
    clear hE e3
    go_enter Try.func30, Try.ntmps30
    go_wp2
    go_ret
    exact ⟨rfl, hB.out⟩
end Go.Proofs.Ytobikiffjanagaa.IrA
end
