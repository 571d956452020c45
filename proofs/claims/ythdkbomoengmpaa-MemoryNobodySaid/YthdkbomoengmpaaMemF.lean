/- Both memories behind any acts. -/
import Derived.Test.YthdkbomoengmpaaMemE
import Derived.Test.YthdkbomoengmpaaOpn
namespace Go.Proofs.Ythdkbomoengmpaa.MemA
open Go.RowKit Go.Proofs.YthdkbomoengmpaaW.PrintWords
set_option linter.unusedVariables false
set_option linter.unusedSimpArgs false

/-- Something that is done to a memory. -/
structure A44 where
  d : Int
  a : Int
  x : Int
  s : ByteArray
def k44 : Kd A44 := Kd.iso (Kd.pair (Kd.int .i64) (Kd.pair (Kd.int .u32) (Kd.pair (Kd.int .u32) Kd.string))) (fun x : A44 => (x.d, x.a, x.x, x.s))
theorem k44_open {w : World} {x : A44} {cs : List Value} (h : k44.K w x cs) : cs = [.int .i64 x.d, .int .u32 x.a, .int .u32 x.x, .string x.s] := by
  obtain ⟨_, _, rfl, rfl, ⟨_, _, rfl, rfl, ⟨_, _, rfl, rfl, rfl⟩⟩⟩ := h
  exact rfl
def z44 : A44 := ⟨0, 0, 0, ⟨#[]⟩⟩
theorem at44 {w : World} {A : Option Addr} {n : Nat} {xs : List A44} (h : Kd.C k44 w A n xs) (j : Nat) (h1 : j < n) : ∃ ad, A = some ad ∧ w.cell? (ad.add (j * 4)) = some (.int .i64 (xs.getD j z44).d) ∧ w.cell? ⟨(ad.add (j * 4)).block, (ad.add (j * 4)).off + 1, none⟩ = some (.int .u32 (xs.getD j z44).a) ∧ w.cell? ⟨(ad.add (j * 4)).block, (ad.add (j * 4)).off + 2, none⟩ = some (.int .u32 (xs.getD j z44).x) ∧ w.cell? ⟨(ad.add (j * 4)).block, (ad.add (j * 4)).off + 3, none⟩ = some (.string (xs.getD j z44).s) := by
  obtain ⟨ad, c, e, _, hK, hc0⟩ := Kd.C_get h z44 (j : Int) (by omega) (by omega)
  rw [Int.toNat_natCast] at hK hc0
  have hc : ∀ i u, c[i]? = some u → w.cell? (ad.add (j * 4 + i)) = some u := hc0
  obtain rfl := k44_open hK
  exact ⟨ad, e, hc 0 _ rfl, by rw [← add_field _ _ 1 (by omega)]; exact hc 1 _ rfl, by rw [← add_field _ _ 2 (by omega)]; exact hc 2 _ rfl, by rw [← add_field _ _ 3 (by omega)]; exact hc 3 _ rfl⟩
/-- Its parts are of their kinds. -/
def g44 (x : A44) : Prop := Opn.InK .i64 x.d ∧ Opn.InK .u32 x.a ∧ Opn.InK .u32 x.x ∧ x.s.size ≤ 140737488351232
theorem o44 : Opn.Opn Try.prog 44 k44 g44 := Opn.imp (Opn.struct (fun x : A44 => (x.d, x.a, x.x, x.s)) (fun p => ⟨p.1, p.2.1, p.2.2.1, p.2.2.2⟩) (fun _ => rfl) Try.underlying44 (by kernel_rfl) (Opn.more rfl (by kernel_rfl) (Opn.int (by kernel_rfl)) (by decide) (Opn.more rfl (by kernel_rfl) (Opn.int (by kernel_rfl)) (by decide) (Opn.more rfl (by kernel_rfl) (Opn.int (by kernel_rfl)) (by decide) (Opn.last rfl (by kernel_rfl) (Opn.string (by kernel_rfl))))))) (fun a h => h)

def step (b : List Int) (x : A44) : List Int := act b x.d x.a.toNat x.x x.s
def acts (b : List Int) (l : List A44) : List Int := l.foldl step b
theorem acts_snoc (b : List Int) (l : List A44) (j : Nat) (h : j < l.length) : acts b (l.take (j + 1)) = step (acts b (l.take j)) (l.getD j z44) := by
  unfold acts
  rw [List.take_succ_eq_append_getElem h, List.foldl_append, List.getD_eq_getElem?_getD, List.getElem?_eq_getElem h]
  rfl
theorem step_length (b : List Int) (x : A44) : (step b x).length = b.length := by
  unfold step act st4 st1 fil
  split
  · split
    · exact lay_length _ _ _
    · rfl
  · split
    · split
      · exact List.length_set
      · rfl
    · split
      · split
        · exact lay_length _ _ _
        · rfl
      · rfl
theorem acts_length : ∀ (l : List A44) (b : List Int), (acts b l).length = b.length
  | [], _ => rfl
  | x :: l, b => by
    show (acts (step b x) l).length = _
    rw [acts_length l, step_length]
theorem step_byt {b : List Int} (h : Byt b) (x : A44) : Byt (step b x) := by
  unfold step act st4 st1 fil
  split
  · split
    · exact h.lay _ _ _ (byt_bs4 _)
    · exact h
  · split
    · split
      · exact h.set _ _ (by omega) (by omega)
      · exact h
    · split
      · split
        · exact h.lay _ _ _ (byt_bytesOf _)
        · exact h
      · exact h
theorem acts_byt : ∀ (l : List A44) {b : List Int}, Byt b → Byt (acts b l)
  | [], _, h => h
  | x :: l, b, h => acts_byt l (step_byt h x)

/-- What made leaves where there is a memory. -/
def Both (n : Nat) (l : List A44) (w : World) (e : Ending) (w' : World) : Prop :=
  ∃ g1 h1 g2 h2, e = .returned (.tuple #[.pointer (some ⟨g1, 0, none⟩), .pointer (some ⟨g2, 0, none⟩), .bool true, .bool true]) ∧ Two w' g1 h1 g2 h2 (acts (List.replicate n 0) l) (acts (List.replicate n 0) l) ∧ Below w.heap.size w w' ∧ w.heap.size ≤ h1 ∧ w.heap.size ≤ h2

set_option maxHeartbeats 8000000 in
set_option maxRecDepth 100000 in
theorem made_no {w : World} {n : Int} (A : Option Addr) (c : Nat) (l : List A44) (h : n < 1 ∨ 262144 < n) :
    Calls Try.prog 6 #[.int .i64 n, .slice A l.length c] w fun e w' => e = .returned (.tuple #[.pointer none, .pointer none, .bool true, .bool false]) ∧ w = w' := by
  have hn := Aside0.mk (new_no (w := w) h)
  have hr := Aside0.mk (rnew_no (w := w) h)
  clear h
  go_enter Try.func6, Try.ntmps6
  go_wp2_with (first | ((with_reducible refine hn.out.mono ?_); rintro e w' ⟨rfl, rfl⟩) | ((with_reducible refine hr.out.mono ?_); rintro e w' ⟨rfl, rfl⟩))
  refine wp_loop_rounds 1 ?_
  rw [rounds_succ]
  go_wp2
  all_goals exact bodyPost_ret (v := .tuple #[.pointer none, .pointer none, .bool true, .bool false]) (by simp [results, Try.results6, go_sem]) rfl ⟨rfl, rfl⟩
set_option maxHeartbeats 8000000 in
set_option maxRecDepth 100000 in
theorem made_yes {w : World} {n : Nat} {A : Option Addr} (c : Nat) {l : List A44} (h1 : 1 ≤ n) (h2 : n ≤ 262144) (hl : Aside0 (k44.C w A l.length l)) (hg : Aside0 (∀ x ∈ l, g44 x)) :
    Calls Try.prog 6 #[.int .i64 (n : Int), .slice A l.length c] w (Both n l w) := by
  have hmx := Kd.C_max hl.out
  go_enter Try.func6, Try.ntmps6
  go_wp2_with fail
  (with_reducible refine (new_yes (w := w) h1 h2).mono ?_)
  rintro e w1 hq
  obtain ⟨g1, e1, rfl, m1, hg1, he1, hb1⟩ := hq
  have m1 := Aside0.mk m1; have hb1 := Aside0.mk hb1; have hg1 := Aside0.mk hg1; have he1 := Aside0.mk he1
  go_wp2_with fail
  (with_reducible refine (rnew_yes (w := w1) h1 h2).mono ?_)
  rintro e w2 hq
  obtain ⟨g2, e2, rfl, m2, hg2, he2, hb2⟩ := hq
  have hT : Aside0 (Two w2 g1 e1 g2 e2 (List.replicate n 0) (List.replicate n 0)) := by
    have a1 := blk_lt m1.out.cell
    have a2 := blk_lt m1.out.row
    exact ⟨m1.out.below hb2, m2, by omega, by omega, by omega⟩
  have hB : Aside0 (Below w.heap.size w w2) := ⟨below_step hb1.out hb2⟩
  have he2' : Aside0 (w.heap.size ≤ e2) := ⟨Nat.le_trans hb1.out.size he2⟩
  clear m1 m2 hb1 hb2 hg1 hg2 he2
  go_wp2
  go_loopw [6, 10] (fun f i wr => ∃ j : Nat, j ≤ l.length ∧ i = .int .i64 j ∧ f = .bool true ∧ Aside0 (Two wr g1 e1 g2 e2 (acts (List.replicate n 0) (l.take j)) (acts (List.replicate n 0) (l.take j))) ∧ Aside0 (Below w.heap.size w wr)) (fun _ i _ => l.length - (intOf i).toNat)
  case atStart => exact ⟨0, by omega, rfl, rfl, hT, hB⟩
  case round =>
    obtain ⟨j, hj, rfl, rfl, hT2, hB2⟩ := hrel
    clear hT hB
    by_cases hlt : j < l.length
    · have hlen := Aside0.mk (acts_length (l.take j) (List.replicate n 0))
      have hst := Aside0.mk (acts_snoc (List.replicate n 0) l j hlt)
      have hgg : g44 (l.getD j z44) := by
        rw [List.getD_eq_getElem?_getD, List.getElem?_eq_getElem hlt]
        exact hg.out _ (List.getElem_mem hlt)
      obtain ⟨ad, e, c0, c1, c2, c3⟩ := at44 hl.out j hlt
      cases e
      replace c0 := (hB2.out.cell (World.block_lt_of_cell? w _ c0)).trans c0
      replace c1 := (hB2.out.cell (World.block_lt_of_cell? w _ c1)).trans c1
      replace c2 := (hB2.out.cell (World.block_lt_of_cell? w _ c2)).trans c2
      replace c3 := (hB2.out.cell (World.block_lt_of_cell? w _ c3)).trans c3
      have hstep : Aside0 (∀ b, step b (l.getD j z44) = act b (l.getD j z44).d (l.getD j z44).a.toNat (l.getD j z44).x (l.getD j z44).s) := ⟨fun _ => rfl⟩
      generalize l.getD j z44 = x at *
      obtain ⟨dd, aa, xx, ss⟩ := x
      obtain ⟨q0, q1, q2, q3⟩ := hgg
      have r1 := Opn.u32 q1
      have r2 := Opn.u32 q2
      clear q1 q2 q0
      dsimp only at c0 c1 c2 c3 r1 r2 q3 hstep
      obtain ⟨an, rfl⟩ := Int.eq_ofNat_of_zero_le r1.1
      have hstep' : Aside0 (∀ b, step b ⟨dd, (an : Int), xx, ss⟩ = act b dd an xx ss) := ⟨fun b => by rw [hstep.out b, Int.toNat_natCast]⟩
      have hpl := Aside0.mk (play hT2 dd xx ss r2.1 r2.2 q3 (by rw [hlen.out, List.length_replicate]; exact h2) (by rw [hlen.out, List.length_replicate]; omega) (a := an) (by omega))
      have hr1 := Aside0.mk (blk_lt hT2.out.m1.row)
      have hr2 := Aside0.mk (blk_lt hT2.out.m2.row)
      clear hstep r1 r2 q3 hl hg
      go_wp2_with fail
      (with_reducible refine hpl.out.mono ?_)
      rintro e w3 hq
      obtain ⟨rfl, hT3, hF3⟩ := hq
      have hT3 := Aside0.mk hT3
      have hB3 := Aside0.mk (hF3.below hB2.out hB2.out.size he1.out he2'.out)
      clear hF3
      go_wp2
      go_roundw
      case rel => exact ⟨j + 1, by omega, by go_num, rfl, ⟨by rw [hst.out, hstep'.out]; exact hT3.out⟩, hB3⟩
      case measure => simp [intOf]; omega
    · obtain rfl : j = l.length := by omega
      rw [List.take_length] at hT2
      go_wp2
      exact bodyPost_ret (v := .tuple #[.pointer (some ⟨g1, 0, none⟩), .pointer (some ⟨g2, 0, none⟩), .bool true, .bool true]) (by simp [results, Try.results6, go_sem]) rfl ⟨g1, e1, g2, e2, rfl, hT2.out, hB2.out, he1.out, he2'.out⟩
end Go.Proofs.Ythdkbomoengmpaa.MemA
