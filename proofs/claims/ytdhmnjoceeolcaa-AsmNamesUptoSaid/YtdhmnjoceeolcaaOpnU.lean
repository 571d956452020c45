/- What came in as an argument, opened kind by kind. -/
import Derived.Test.YtdhmnjoceeolcaaAsU
import Derived.Test.YtdhmnjoceeolcaaWWords
import Derived.WalkKit
import Derived.ProofKit
import Derived.OpenShut
import Derived.WideShapes
import Derived.ChangeArms
import Derived.Deep.Slices
import Derived.SizedLaws
namespace Go.Proofs.Ytdhmnjoceeolcaa.Opn
open Go.ChangeShapes Go.WideShapes Go.ChangeAt Go.RowKit Go.Deep Go.Proofs.YtdhmnjoceeolcaaW.PrintWords
set_option linter.unusedVariables false
set_option linter.unusedSimpArgs false

/-- Cells of type t that can be read as data are those of some Lean value (good: G). -/
def Opn {α : Type} (P : Program) (t : TypeId) (k : Kd α) (G : α → Prop) : Prop :=
  ∀ {H : Type} (enc : TypeId × Value → H) (w : World) (base : Nat) (spare : Nat → Bool) (held : Bool) (fuel : Nat) (cs : List Value) (x : DataW H × List MemPlace),
    DataW.trod enc P w base spare held fuel t cs = some x → (∀ n ∈ DataW.weights P t x.1, n ≤ Go.Proofs.Ytdhmnjoceeolcaa.Asm.capB) → ∃ a, k.K w a cs ∧ G a

/-- A number of its kind. -/
def InK (k : IntKind) (n : Int) : Prop := (Lit.int k n).wf = true

theorem int {P : Program} {t : TypeId} {k : IntKind} (ht : P.underlying t = some (.int k)) : Opn P t (Kd.int k) (InK k) := by
  intro H enc w base spare held fuel cs x h _
  obtain ⟨n, rfl, _, hw⟩ := DataW.trod_int ht h
  exact ⟨n, rfl, hw⟩
theorem bool {P : Program} {t : TypeId} (ht : P.underlying t = some .bool) : Opn P t Kd.bool (fun _ => True) := by
  intro H enc w base spare held fuel cs x h _
  obtain ⟨n, rfl, _⟩ := DataW.trod_bool ht h
  exact ⟨n, rfl, trivial⟩
theorem string {P : Program} {t : TypeId} (ht : P.underlying t = some .string) : Opn P t Kd.string (fun s => s.size ≤ 1073741824) := by
  intro H enc w base spare held fuel cs x h hw
  obtain ⟨s, rfl, rfl, _⟩ := DataW.trod_string ht h
  refine ⟨s, rfl, ?_⟩
  have := hw s.data.toList.length (by simp [DataW.weights])
  rw [Array.length_toList] at this
  exact this

theorem weights_all {H : Type} {P : Program} {e : TypeId} : ∀ (l : List (DataW H)) (d : DataW H), d ∈ l → ∀ n ∈ DataW.weights P e d, n ∈ DataW.weightsAll P e l
  | d' :: l, d, hd, n, hn => by
    simp only [DataW.weightsAll]
    rcases List.mem_cons.1 hd with rfl | hd
    · exact List.mem_append_left _ hn
    · exact List.mem_append_right _ (weights_all l d hd n hn)

theorem slice {α : Type} {P : Program} {t e : TypeId} {k : Kd α} {G : α → Prop} (b : Nat) (ht : P.underlying t = some (.slice e)) (hC : P.cellsOf e = k.sz) (hb : P.bytesOf e = b) (he : Opn P e k G) :
    Opn P t (Kd.slice e k) (fun l => l.length * b ≤ 1073741824 ∧ ∀ x ∈ l, G x) := by
  intro H enc w base spare held fuel cs x h hw
  rcases open_slice ht h with ⟨rfl, rfl⟩ | ⟨a, len, cap, m, n, D, Pl, rfl, _, hl, hm, hmm, rfl, hi⟩
  · exact ⟨[], ⟨none, 0, rfl, by simp, Kd.C_nil k w⟩, by simp, by simp⟩
  · have hlm : len ≤ m := by rw [hmm]; split <;> omega
    have hsz := hw ((((List.range len).map D).length + ((List.range (m - len)).map fun j => D (len + j)).length) * P.bytesOf e) (by simp [DataW.weights, ht])
    have hel : ∀ i, i < len → ∃ a' cs', w.cells? base (a.add (i * P.cellsOf e)) (P.cellsOf e) = some cs' ∧ k.K w a' cs' ∧ G a' := by
      intro i hil
      obtain ⟨cs', hc, hd⟩ := hi i (by omega)
      obtain ⟨a', hk, hg⟩ := he enc w base spare held n cs' _ hd (fun q hq => hw q (by
        simp only [DataW.weights, ht]
        refine List.mem_cons_of_mem _ (List.mem_append_left _ (weights_all _ (D i) ?_ q hq))
        exact List.mem_map.2 ⟨i, by simpa using hil, rfl⟩))
      exact ⟨a', cs', hc, hk, hg⟩
    have hpk : ∀ j, j ≤ len → ∃ l : List α, l.length = j ∧ (∀ x ∈ l, G x) ∧ ∀ i p, l[i]? = some p → ∃ c, c.length = k.sz ∧ k.K w p c ∧ ∀ q u, c[q]? = some u → w.cell? (a.add (i * k.sz + q)) = some u := by
      intro j
      induction j with
      | zero => exact fun _ => ⟨[], rfl, by simp, by simp⟩
      | succ j ih =>
        intro hj
        obtain ⟨l, hlj, hr1, hr2⟩ := ih (by omega)
        obtain ⟨a', cs', hc, hk, hg⟩ := hel j (by omega)
        refine ⟨l ++ [a'], by simp [hlj], fun x hx => ?_, fun i p hp => ?_⟩
        · rcases List.mem_append.1 hx with hx | hx
          · exact hr1 x hx
          · rw [List.mem_singleton.1 hx]; exact hg
        · by_cases hil : i < l.length
          · rw [List.getElem?_append_left hil] at hp
            exact hr2 i p hp
          · have hij : i = j := by
              have := (List.getElem?_eq_some_iff.1 hp).1
              simp at this
              omega
            subst hij
            rw [List.getElem?_append_right (by omega), hlj, Nat.sub_self] at hp
            have hp' : a' = p := by simpa using hp
            subst hp'
            obtain ⟨_, hcl, hat⟩ := World.cells?_some hc
            rw [hC] at hat
            refine ⟨cs', k.K_len hk, hk, fun q u hu => ?_⟩
            have hq : q < k.sz := by
              have := (List.getElem?_eq_some_iff.1 hu).1
              rw [k.K_len hk] at this
              exact this
            rw [← Go.Deep.add_add, hat q hq, hu]
    obtain ⟨l, hll, hr1, hr2⟩ := hpk len (Nat.le_refl _)
    refine ⟨l, ⟨some a, cap, by rw [hll], by omega, ⟨rfl, by simp only [maxLen] at hm; omega, fun _ => ⟨a, rfl, hr2⟩⟩⟩, ?_, hr1⟩
    simp only [List.length_map, List.length_range] at hsz
    rw [hb] at hsz
    have h2 : len * b ≤ (len + (m - len)) * b := Nat.mul_le_mul_right _ (by omega)
    rw [hll]
    exact Nat.le_trans h2 hsz

/-- The fields of a struct from some cell on. -/
def OpnFs {α : Type} (P : Program) (fs : List Field) (off : Nat) (k : Kd α) (G : α → Prop) : Prop :=
  ∀ {H : Type} (enc : TypeId × Value → H) (w : World) (base : Nat) (spare : Nat → Bool) (held : Bool) (n : Nat) (cs : List Value) (ys : List (DataW H × List MemPlace)), cs.length = k.sz → ys.length = fs.length →
    (∀ (i : Nat) (f : Field), fs[i]? = some f → DataW.trod enc P w base spare held n f.type ((cs.drop (f.offset - off)).take (P.cellsOf f.type)) = ys[i]?) →
    (∀ q ∈ DataW.weightsEach P (fs.map (·.type)) (ys.map (·.1)), q ≤ Go.Proofs.Ytdhmnjoceeolcaa.Asm.capB) → ∃ a, k.K w a cs ∧ G a

theorem last {α : Type} {P : Program} {f : Field} {off : Nat} {k : Kd α} {G : α → Prop} (ho : f.offset = off) (hC : P.cellsOf f.type = k.sz) (hf : Opn P f.type k G) : OpnFs P [f] off k G := by
  intro H enc w base spare held n cs ys hl hy hg hw
  match ys, hy with
  | [y], _ =>
    have h0 := hg 0 f rfl
    rw [ho, Nat.sub_self, List.drop_zero, hC, List.take_of_length_le (by omega)] at h0
    exact hf enc w base spare held n cs y h0 (fun q hq => hw q (by simp [DataW.weightsEach, hq]))
theorem more {α β : Type} {P : Program} {f : Field} {fs : List Field} {off : Nat} {k : Kd α} {k' : Kd β} {G : α → Prop} {G' : β → Prop} (ho : f.offset = off) (hC : P.cellsOf f.type = k.sz) (hf : Opn P f.type k G)
    (hfs : ∀ g ∈ fs, off + k.sz ≤ g.offset) (hr : OpnFs P fs (off + k.sz) k' G') : OpnFs P (f :: fs) off (Kd.pair k k') (fun p => G p.1 ∧ G' p.2) := by
  intro H enc w base spare held n cs ys hl hy hg hw
  have hl' : cs.length = k.sz + k'.sz := hl
  match ys, hy with
  | y :: ys, hy =>
    have h0 := hg 0 f rfl
    rw [ho, Nat.sub_self, List.drop_zero, hC] at h0
    obtain ⟨a, hk, hG⟩ := hf enc w base spare held n _ y h0 (fun q hq => hw q (by simp [DataW.weightsEach, hq]))
    obtain ⟨b, hk', hG'⟩ := hr enc w base spare held n (cs.drop k.sz) ys (by rw [List.length_drop]; omega) (by simpa using hy) (fun i g hgi => by
        have h1 := hg (i + 1) g (by simpa using hgi)
        have h2 := hfs g (List.mem_of_getElem? hgi)
        rw [List.drop_drop, show k.sz + (g.offset - (off + k.sz)) = g.offset - off by omega]
        simpa using h1) (fun q hq => hw q (by simp [DataW.weightsEach, hq]))
    exact ⟨(a, b), ⟨cs.take k.sz, cs.drop k.sz, (List.take_append_drop _ _).symm, hk, hk'⟩, hG, hG'⟩
theorem struct {α β : Type} {P : Program} {t : TypeId} {fs : List Field} {k : Kd α} {G : α → Prop} (f : β → α) (mk : α → β) (hmk : ∀ a, f (mk a) = a) (ht : P.underlying t = some (.struct fs.toArray)) (hC : P.cellsOf t = k.sz) (hr : OpnFs P fs 0 k G) :
    Opn P t (Kd.iso k f) (fun b => G (f b)) := by
  intro H enc w base spare held fuel cs x h hw
  obtain ⟨xs, n, _, rfl, hl, hxl, hg⟩ := DataW.trod_struct ht h
  obtain ⟨a, hk, hG⟩ := hr enc w base spare held n cs xs (by rw [hl, hC]) (by simpa using hxl) (fun i g hi => by
      have := hg i g (by simpa using hi)
      simpa using this) (fun q hq => hw q (by simpa [DataW.weights, ht] using hq))
  exact ⟨mk a, by show k.K w (f (mk a)) cs; rw [hmk]; exact hk, by show G (f (mk a)); rw [hmk]; exact hG⟩
theorem imp {α : Type} {P : Program} {t : TypeId} {k : Kd α} {G G' : α → Prop} (h : Opn P t k G) (hG : ∀ a, G a → G' a) : Opn P t k G' := by
  intro H enc w base spare held fuel cs x h1 hw
  obtain ⟨a, hk, hg⟩ := h enc w base spare held fuel cs x h1 hw
  exact ⟨a, hk, hG a hg⟩

/-- An argument's own weight. -/
theorem weight {H : Type} {P : Program} {ts : List TypeId} {ds : List (DataW H)} (h : (DataW.weightsEach P ts ds).all (· ≤ Go.Proofs.Ytdhmnjoceeolcaa.Asm.capB) = true) {j : Nat} {t : TypeId} {d : DataW H} (ht : ts[j]? = some t) (hd : ds[j]? = some d) : ∀ n ∈ DataW.weights P t d, n ≤ Go.Proofs.Ytdhmnjoceeolcaa.Asm.capB :=
  fun n hn => by have := List.all_eq_true.1 h n (DataW.weights_mem_each ht hd n hn); simpa using this

section
variable {H : Type} {enc : TypeId × Value → H} {P : Program} {w : World} {base : Nat} {spare : Nat → Bool} {held : Bool} {r : Reach} {b0 : Nat} {t : TypeId} {v : Value} {d : DataW H} {p : List MemPlace}
/-- A slice argument. -/
theorem arg_slice {α : Type} {e : TypeId} {k : Kd α} {G : List α → Prop} (ht : P.underlying t = some (.slice e)) (ho : Opn P t (Kd.slice e k) G) (hv : Value.okWide P w r b0 t v) (h : DataW.Trod enc P w base spare held t v d p) (hw : ∀ n ∈ DataW.weights P t d, n ≤ Go.Proofs.Ytdhmnjoceeolcaa.Asm.capB) :
    ∃ (A : Option Addr) (c : Nat) (l : List α), v = .slice A l.length c ∧ l.length ≤ c ∧ k.C w A l.length l ∧ G l := by
  obtain ⟨a, len, cap, rfl⟩ := okWide_slice ht hv
  obtain ⟨fuel, hf⟩ := h
  obtain ⟨l, ⟨A, c, he, hl, hc⟩, hG⟩ := ho enc w base spare held fuel _ _ hf hw
  have he' : Value.slice a len cap = .slice A l.length c := by simpa [Value.cells] using he
  exact ⟨A, c, l, he', hl, hc, hG⟩
/-- A struct argument: its cells. -/
theorem arg_struct {α : Type} {fs : Array Field} {k : Kd α} {G : α → Prop} (ht : P.underlying t = some (.struct fs)) (ho : Opn P t k G) (hv : Value.okWide P w r b0 t v) (h : DataW.Trod enc P w base spare held t v d p) (hw : ∀ n ∈ DataW.weights P t d, n ≤ Go.Proofs.Ytdhmnjoceeolcaa.Asm.capB) :
    ∃ (cs : List Value) (a : α), v = .agg ⟨cs⟩ ∧ k.K w a cs ∧ G a := by
  obtain ⟨⟨cs⟩, rfl, hsz⟩ := okWide_struct ht hv
  obtain ⟨fuel, hf⟩ := h
  obtain ⟨a, hk, hG⟩ := ho enc w base spare held fuel _ _ hf hw
  exact ⟨cs, a, rfl, hk, hG⟩
theorem arg_string (ht : P.underlying t = some .string) (hv : Value.okWide P w r b0 t v) (h : DataW.Trod enc P w base spare held t v d p) (hw : ∀ n ∈ DataW.weights P t d, n ≤ Go.Proofs.Ytdhmnjoceeolcaa.Asm.capB) : ∃ s : ByteArray, v = .string s ∧ s.size ≤ 1073741824 := by
  obtain ⟨s, rfl⟩ := okWide_string ht hv
  obtain ⟨fuel, hf⟩ := h
  obtain ⟨s', hk, hG⟩ := string ht enc w base spare held fuel _ _ hf hw
  have : Value.string s = .string s' := by simpa [Value.cells, Kd.string, Kd.scalar] using hk
  injection this with this
  subst this
  exact ⟨s, rfl, hG⟩
theorem arg_int {k : IntKind} (ht : P.underlying t = some (.int k)) (hv : Value.okWide P w r b0 t v) (h : DataW.Trod enc P w base spare held t v d p) : ∃ n : Int, v = .int k n ∧ InK k n := by
  obtain ⟨n, rfl⟩ := okWide_int ht hv
  obtain ⟨fuel, hf⟩ := h
  obtain ⟨n', he, _, hw⟩ := DataW.trod_int ht hf
  have : n = n' := by simpa [Value.cells] using he
  subst this
  exact ⟨n, rfl, hw⟩
end

theorem i64 {n : Int} (h : InK .i64 n) : -9223372036854775808 ≤ n ∧ n ≤ 9223372036854775807 := by
  simp [InK, Lit.wf, IntKind.min, IntKind.max, IntKind.signed, IntKind.bits] at h
  omega
theorem i32 {n : Int} (h : InK .i32 n) : -2147483648 ≤ n ∧ n ≤ 2147483647 := by
  simp [InK, Lit.wf, IntKind.min, IntKind.max, IntKind.signed, IntKind.bits] at h
  omega
theorem u64 {n : Int} (h : InK .u64 n) : 0 ≤ n ∧ n ≤ 18446744073709551615 := by
  simp [InK, Lit.wf, IntKind.min, IntKind.max, IntKind.signed, IntKind.bits] at h
  omega
theorem u32 {n : Int} (h : InK .u32 n) : 0 ≤ n ∧ n ≤ 4294967295 := by
  simp [InK, Lit.wf, IntKind.min, IntKind.max, IntKind.signed, IntKind.bits] at h
  omega
theorem u16 {n : Int} (h : InK .u16 n) : 0 ≤ n ∧ n ≤ 65535 := by
  simp [InK, Lit.wf, IntKind.min, IntKind.max, IntKind.signed, IntKind.bits] at h
  omega
theorem u8 {n : Int} (h : InK .u8 n) : 0 ≤ n ∧ n ≤ 255 := by
  simp [InK, Lit.wf, IntKind.min, IntKind.max, IntKind.signed, IntKind.bits] at h
  omega
end Go.Proofs.Ytdhmnjoceeolcaa.Opn
