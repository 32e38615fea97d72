/- ResidueBack: part 28 of its proof. -/
import Derived.Test.YthapknnppabdaaaGreatZ00
import Derived.Deep.Slices
import Derived.ProofKit
import Derived.SizedLaws
import Derived.Test.YthapknnppabdaaaGreatZ27
namespace Go.Proofs.YthapknnppabdaaaGreat.Opens
open Go.RowKit Go.ChangeShapes Go.WideShapes Go.Deep Go.Proofs.YthapknnppabdaaaGreatW.PrintWords
set_option linter.unusedVariables false
set_option linter.unusedSimpArgs false
/-- Whatever reads as data at type t (no string or slice in it beyond the reach) is of the kind d, and R holds of it. -/
def Opens {α : Type} (P : Program) (t : TypeId) (d : Kd α) (R : α → Prop) : Prop :=
  ∀ (H : Type) (enc : TypeId × Value → H) (w : World) (base : Nat) (spare : Nat → Bool) (held : Bool) (fuel : Nat) (cs : List Value) (dd : DataW H) (ps : List MemPlace),
    DataW.trod enc P w base spare held fuel t cs = some (dd, ps) → (∀ n ∈ dd.weights P t, n ≤ reachBytes) → ∃ x, d.K w x cs ∧ R x
/-- The same of fields in line, from cell o on. -/
def OpensF {α : Type} (P : Program) (fs : List Field) (o : Nat) (d : Kd α) (R : α → Prop) : Prop :=
  ∀ (H : Type) (enc : TypeId × Value → H) (w : World) (base : Nat) (spare : Nat → Bool) (held : Bool) (fuel : Nat) (cs : List Value) (xs : List (DataW H × List MemPlace)),
    cs.length = o + d.sz → (fs.mapM fun f => DataW.trod enc P w base spare held fuel f.type ((cs.drop f.offset).take (P.cellsOf f.type))) = some xs →
    (∀ n ∈ DataW.weightsEach P (fs.map (·.type)) (xs.map (·.1)), n ≤ reachBytes) → ∃ x, d.K w x (cs.drop o) ∧ R x
variable {α β : Type} {P : Program} {t e : TypeId}

theorem Opens.int {k : IntKind} (h : P.underlying t = some (.int k)) : Opens P t (Kd.int k) (fun x => (Lit.int k x).wf = true) := by
  intro H enc w base spare held fuel cs dd ps hf hw
  obtain ⟨n, rfl, _, hn⟩ := DataW.trod_int h hf
  exact ⟨n, rfl, hn⟩
theorem Opens.string (h : P.underlying t = some .string) : Opens P t Kd.string (fun s => s.size ≤ 140737488351232) := by
  intro H enc w base spare held fuel cs dd ps hf hw
  obtain ⟨s, rfl, hx, _⟩ := DataW.trod_string h hf
  obtain ⟨rfl, _⟩ := Prod.mk.inj hx
  refine ⟨s, rfl, ?_⟩
  have := hw s.data.toList.length (by simp [DataW.weights])
  rw [Array.length_toList] at this
  exact this
theorem weightsAll_mem {H : Type} {n : Nat} {d : DataW H} : ∀ {ds : List (DataW H)}, d ∈ ds → n ∈ d.weights P e → n ∈ DataW.weightsAll P e ds
  | [], h, _ => by cases h
  | d' :: ds, h, hn => by
    simp only [DataW.weightsAll, List.mem_append]
    rcases List.mem_cons.1 h with rfl | h
    · exact .inl hn
    · exact .inr (weightsAll_mem h hn)
theorem cells_take {w : World} {base : Nat} {a : Addr} {n : Nat} {cs : List Value} (h : w.cells? base a n = some cs) (i : Nat) (u : Value) (hu : cs[i]? = some u) : w.cell? (a.add i) = some u := by
  obtain ⟨_, hl, hc⟩ := World.cells?_some h
  have hi : i < n := by
    have := (List.getElem?_eq_some_iff.1 hu).1
    omega
  rw [hc i hi, hu]
theorem Opens.slice {d : Kd α} {R : α → Prop} {B : Nat} (ht : P.underlying t = some (.slice e)) (hc : P.cellsOf e = d.sz) (hB : P.bytesOf e = B) (ho : Opens P e d R) :
    Opens P t (Kd.slice e d) (fun xs => xs.length ≤ maxLen ∧ xs.length * B ≤ 140737488351232 ∧ ∀ x ∈ xs, R x) := by
  intro H enc w base spare held fuel cs dd ps hf hw
  rcases open_slice ht hf with ⟨rfl, hx⟩ | ⟨a, len, cap, m, n, D, Pl, rfl, hb, hl, hm, hmm, hx, hel⟩
  · exact ⟨[], ⟨none, 0, rfl, Nat.le_refl _, rfl, Nat.zero_le _, fun h => absurd h (Nat.lt_irrefl _)⟩, by simp [maxLen], by simp, fun x hx => by cases hx⟩
  · obtain ⟨rfl, _⟩ := Prod.mk.inj hx
    have hlm : len ≤ m := by
      rw [hmm]
      split <;> omega
    have hone : ∀ i, i < len → ∃ x : α, (∃ cs', w.cells? base (a.add (i * P.cellsOf e)) (P.cellsOf e) = some cs' ∧ d.K w x cs') ∧ R x := by
      intro i hi
      obtain ⟨cs', h1, h2⟩ := hel i (by omega)
      obtain ⟨x, hk, hr⟩ := ho H enc w base spare held n cs' (D i) (Pl i) h2 (fun q hq => hw q (by
        simp only [DataW.weights, ht, List.mem_cons, List.mem_append]
        exact .inr (.inl (weightsAll_mem (List.mem_map.2 ⟨i, List.mem_range.2 hi, rfl⟩) hq))))
      exact ⟨x, ⟨cs', h1, hk⟩, hr⟩
    have hlist : ∀ k, k ≤ len → ∃ xs : List α, xs.length = k ∧ ∀ i x, xs[i]? = some x → (∃ cs', w.cells? base (a.add (i * P.cellsOf e)) (P.cellsOf e) = some cs' ∧ d.K w x cs') ∧ R x := by
      intro k
      induction k with
      | zero => intro _; exact ⟨[], rfl, fun i x h => by simp at h⟩
      | succ k ih =>
        intro hk
        obtain ⟨xs, hxl, hx⟩ := ih (by omega)
        obtain ⟨x, hx1⟩ := hone k (by omega)
        refine ⟨xs ++ [x], by simp [hxl], fun i y hy => ?_⟩
        rcases Nat.lt_trichotomy i k with h | h | h
        · rw [List.getElem?_append_left (by omega)] at hy
          exact hx i y hy
        · subst h
          rw [← hxl] at hy
          simp at hy
          subst hy
          exact hx1
        · rw [List.getElem?_eq_none (by simp; omega)] at hy
          cases hy
    obtain ⟨xs, hxl, hxx⟩ := hlist len (Nat.le_refl _)
    subst hxl
    have hw1 := hw _ (by simp only [DataW.weights, ht]; exact List.mem_cons_self)
    refine ⟨xs, ⟨some a, cap, rfl, hl, rfl, Nat.le_trans hl hm, fun _ => ⟨a, rfl, fun j p hp => ?_⟩⟩, Nat.le_trans hl hm, ?_, fun x hxm => ?_⟩
    · obtain ⟨⟨cs', h1, hk⟩, _⟩ := hxx j p hp
      refine ⟨cs', d.K_len hk, hk, fun i u hu => ?_⟩
      have := cells_take h1 i u hu
      rw [hc] at this
      rwa [Go.Deep.add_add] at this
    · rw [hB] at hw1
      simp only [List.length_map, List.length_range] at hw1
      exact Nat.le_trans (Nat.mul_le_mul_right _ (Nat.le_add_right _ _)) hw1
    · obtain ⟨i, hi, rfl⟩ := List.getElem_of_mem hxm
      exact (hxx i _ (List.getElem?_eq_getElem hi)).2
theorem OpensF.last {f : Field} {o : Nat} {d : Kd α} {R : α → Prop} (ho : f.offset = o) (hc : P.cellsOf f.type = d.sz) (h : Opens P f.type d R) : OpensF P [f] o d R := by
  intro H enc w base spare held fuel cs xs hl hm hw
  simp only [List.mapM_cons, List.mapM_nil, Option.pure_def, Option.bind_eq_bind, Option.bind_eq_some_iff, Option.some.injEq] at hm
  obtain ⟨y, hy, _, rfl, rfl⟩ := hm
  rw [ho, hc, List.take_of_length_le (by rw [List.length_drop]; omega)] at hy
  exact h H enc w base spare held fuel _ y.1 y.2 hy (fun n hn => hw n (by simp [DataW.weightsEach]; exact hn))
theorem OpensF.cons {f : Field} {fs : List Field} {o o' : Nat} {d : Kd α} {b : Kd β} {R : α → Prop} {Rb : β → Prop} (ho : f.offset = o) (hc : P.cellsOf f.type = d.sz) (he : o + d.sz = o') (h : Opens P f.type d R) (hr : OpensF P fs o' b Rb) :
    OpensF P (f :: fs) o (Kd.pair d b) (fun x => R x.1 ∧ Rb x.2) := by
  subst he
  intro H enc w base spare held fuel cs xs hl hm hw
  simp only [List.mapM_cons, Option.pure_def, Option.bind_eq_bind, Option.bind_eq_some_iff, Option.some.injEq] at hm
  obtain ⟨y, hy, ys, hys, rfl⟩ := hm
  have hl2 : cs.length = o + (d.sz + b.sz) := hl
  rw [ho, hc] at hy
  obtain ⟨x, hx, hrx⟩ := h H enc w base spare held fuel _ y.1 y.2 hy (fun n hn => hw n (by simp only [List.map_cons, DataW.weightsEach, List.mem_append]; exact .inl hn))
  obtain ⟨z, hz, hrz⟩ := hr H enc w base spare held fuel cs ys (by omega) hys (fun n hn => hw n (by simp only [List.map_cons, DataW.weightsEach, List.mem_append]; exact .inr hn))
  refine ⟨(x, z), ⟨(cs.drop o).take d.sz, cs.drop (o + d.sz), ?_, hx, hz⟩, hrx, hrz⟩
  rw [← List.drop_drop, List.take_append_drop]
theorem Opens.struct {fs : Array Field} {l : List Field} {d : Kd α} {R : α → Prop} (ht : P.underlying t = some (.struct fs)) (hfs : fs.toList = l) (hc : P.cellsOf t = d.sz) (h : OpensF P l 0 d R) (f : β → α) (g : α → β) (hg : ∀ x, f (g x) = x) :
    Opens P t (Kd.iso d f) (fun x => R (f x)) := by
  subst hfs
  intro H enc w base spare held fuel cs dd ps hf hw
  cases fuel with
  | zero => simp [DataW.trod] at hf
  | succ n =>
    simp only [DataW.trod, ht] at hf
    split at hf
    · rename_i hl
      obtain ⟨xs, hxs, hx⟩ := Option.map_eq_some_iff.1 hf
      obtain ⟨rfl, _⟩ := Prod.mk.inj hx
      obtain ⟨x, hk, hr⟩ := h H enc w base spare held n cs xs (by rw [hl, hc]; omega) hxs (fun q hq => hw q (by simp only [DataW.weights, ht]; exact hq))
      refine ⟨g x, ?_, by show R (f (g x)); rw [hg]; exact hr⟩
      show d.K w (f (g x)) cs
      rw [hg]
      simpa using hk
    · cases hf
/-- An argument: its weights, out of the row's own. -/
theorem Opens.arg {H : Type} {enc : TypeId × Value → H} {w : World} {base : Nat} {spare : Nat → Bool} {held : Bool} {ts : List TypeId} {ds : List (DataW H)} {j : Nat} {v : Value} {dd : DataW H} {ps : List MemPlace} {d : Kd α} {R : α → Prop} (ho : Opens P t d R)
    (hsz : (DataW.weightsEach P ts ds).all (· ≤ reachBytes) = true) (ht : ts[j]? = some t) (hd : ds[j]? = some dd) (h : DataW.Trod enc P w base spare held t v dd ps) : ∃ x, d.K w x v.cells.toList ∧ R x := by
  obtain ⟨fuel, hf⟩ := h
  exact ho H enc w base spare held fuel _ dd ps hf (fun n hn => by
    have := List.all_eq_true.1 hsz _ (DataW.weights_mem_each ht hd n hn)
    simpa using this)
end Go.Proofs.YthapknnppabdaaaGreat.Opens
namespace Go.Proofs.YthapknnppabdaaaGreat.MQ
open Go.RowKit Go.Proofs.YthapknnppabdaaaGreatW.PrintWords Go.Proofs.YthapknnppabdaaaGreatW.PrintLast Go.Proofs.YthapknnppabdaaaGreat.Opens
set_option maxRecDepth 100000
def R24 (x : S24) : Prop := (fun x : Int => (Lit.int .i64 x).wf = true) x.f0 ∧ (fun s : ByteArray => s.size ≤ 140737488351232) x.f1
theorem opens24 : Opens Tryz.prog 24 k24 R24 :=
  Opens.struct Tryz.underlying24 rfl (by kernel_rfl) (OpensF.cons rfl (by kernel_rfl) rfl (Opens.int Tryz.underlying3) (OpensF.last rfl (by kernel_rfl) (Opens.string Tryz.underlying9))) (fun x : S24 => (x.f0, x.f1)) (fun y => ⟨y.1, y.2⟩) (fun _ => rfl)
def R46 (x : S46) : Prop := (fun x : Int => (Lit.int .i64 x).wf = true) x.f0 ∧ (fun xs : List Int => xs.length ≤ maxLen ∧ xs.length * 1 ≤ 140737488351232 ∧ ∀ x ∈ xs, (fun x : Int => (Lit.int .u8 x).wf = true) x) x.f1
theorem opens46 : Opens Tryz.prog 46 k46 R46 :=
  Opens.struct Tryz.underlying46 rfl (by kernel_rfl) (OpensF.cons rfl (by kernel_rfl) rfl (Opens.int Tryz.underlying3) (OpensF.last rfl (by kernel_rfl) (Opens.slice (B := 1) Tryz.underlying38 (by kernel_rfl) (by kernel_rfl) (Opens.int Tryz.underlying5)))) (fun x : S46 => (x.f0, x.f1)) (fun y => ⟨y.1, y.2⟩) (fun _ => rfl)
def R48 (x : S48) : Prop := (fun s : ByteArray => s.size ≤ 140737488351232) x.f0 ∧ (fun s : ByteArray => s.size ≤ 140737488351232) x.f1
theorem opens48 : Opens Tryz.prog 48 k48 R48 :=
  Opens.struct Tryz.underlying48 rfl (by kernel_rfl) (OpensF.cons rfl (by kernel_rfl) rfl (Opens.string Tryz.underlying9) (OpensF.last rfl (by kernel_rfl) (Opens.string Tryz.underlying9))) (fun x : S48 => (x.f0, x.f1)) (fun y => ⟨y.1, y.2⟩) (fun _ => rfl)
def R50 (x : S50) : Prop := (fun x : Int => (Lit.int .i64 x).wf = true) x.f0 ∧ (fun xs : List Int => xs.length ≤ maxLen ∧ xs.length * 1 ≤ 140737488351232 ∧ ∀ x ∈ xs, (fun x : Int => (Lit.int .u8 x).wf = true) x) x.f1
theorem opens50 : Opens Tryz.prog 50 k50 R50 :=
  Opens.struct Tryz.underlying50 rfl (by kernel_rfl) (OpensF.cons rfl (by kernel_rfl) rfl (Opens.int Tryz.underlying3) (OpensF.last rfl (by kernel_rfl) (Opens.slice (B := 1) Tryz.underlying38 (by kernel_rfl) (by kernel_rfl) (Opens.int Tryz.underlying5)))) (fun x : S50 => (x.f0, x.f1)) (fun y => ⟨y.1, y.2⟩) (fun _ => rfl)
def R29 (x : S29) : Prop := (fun x : Int => (Lit.int .i64 x).wf = true) x.f0 ∧ (fun x : Int => (Lit.int .i64 x).wf = true) x.f1 ∧ (fun s : ByteArray => s.size ≤ 140737488351232) x.f2 ∧ (fun s : ByteArray => s.size ≤ 140737488351232) x.f3 ∧ (fun s : ByteArray => s.size ≤ 140737488351232) x.f4 ∧ (fun s : ByteArray => s.size ≤ 140737488351232) x.f5 ∧ (fun x : Int => (Lit.int .u64 x).wf = true) x.f6 ∧ (fun s : ByteArray => s.size ≤ 140737488351232) x.f7 ∧ (fun s : ByteArray => s.size ≤ 140737488351232) x.f8 ∧ (fun s : ByteArray => s.size ≤ 140737488351232) x.f9 ∧ (fun s : ByteArray => s.size ≤ 140737488351232) x.f10 ∧ (fun x : Int => (Lit.int .i64 x).wf = true) x.f11 ∧ (fun s : ByteArray => s.size ≤ 140737488351232) x.f12 ∧ (fun s : ByteArray => s.size ≤ 140737488351232) x.f13 ∧ R24 x.f14 ∧ (fun xs : List (S46) => xs.length ≤ maxLen ∧ xs.length * 32 ≤ 140737488351232 ∧ ∀ x ∈ xs, R46 x) x.f15 ∧ (fun s : ByteArray => s.size ≤ 140737488351232) x.f16 ∧ (fun s : ByteArray => s.size ≤ 140737488351232) x.f17 ∧ (fun xs : List (S48) => xs.length ≤ maxLen ∧ xs.length * 32 ≤ 140737488351232 ∧ ∀ x ∈ xs, R48 x) x.f18 ∧ (fun xs : List (S50) => xs.length ≤ maxLen ∧ xs.length * 32 ≤ 140737488351232 ∧ ∀ x ∈ xs, R50 x) x.f19
theorem opens29 : Opens Tryz.prog 29 k29 R29 :=
  Opens.struct Tryz.underlying29 rfl (by kernel_rfl) (OpensF.cons rfl (by kernel_rfl) rfl (Opens.int Tryz.underlying3) (OpensF.cons rfl (by kernel_rfl) rfl (Opens.int Tryz.underlying3) (OpensF.cons rfl (by kernel_rfl) rfl (Opens.string Tryz.underlying9) (OpensF.cons rfl (by kernel_rfl) rfl (Opens.string Tryz.underlying9) (OpensF.cons rfl (by kernel_rfl) rfl (Opens.string Tryz.underlying9) (OpensF.cons rfl (by kernel_rfl) rfl (Opens.string Tryz.underlying9) (OpensF.cons rfl (by kernel_rfl) rfl (Opens.int Tryz.underlying22) (OpensF.cons rfl (by kernel_rfl) rfl (Opens.string Tryz.underlying9) (OpensF.cons rfl (by kernel_rfl) rfl (Opens.string Tryz.underlying9) (OpensF.cons rfl (by kernel_rfl) rfl (Opens.string Tryz.underlying9) (OpensF.cons rfl (by kernel_rfl) rfl (Opens.string Tryz.underlying9) (OpensF.cons rfl (by kernel_rfl) rfl (Opens.int Tryz.underlying3) (OpensF.cons rfl (by kernel_rfl) rfl (Opens.string Tryz.underlying9) (OpensF.cons rfl (by kernel_rfl) rfl (Opens.string Tryz.underlying9) (OpensF.cons rfl (by kernel_rfl) rfl opens24 (OpensF.cons rfl (by kernel_rfl) rfl (Opens.slice (B := 32) Tryz.underlying25 (by kernel_rfl) (by kernel_rfl) opens46) (OpensF.cons rfl (by kernel_rfl) rfl (Opens.string Tryz.underlying9) (OpensF.cons rfl (by kernel_rfl) rfl (Opens.string Tryz.underlying9) (OpensF.cons rfl (by kernel_rfl) rfl (Opens.slice (B := 32) Tryz.underlying26 (by kernel_rfl) (by kernel_rfl) opens48) (OpensF.last rfl (by kernel_rfl) (Opens.slice (B := 32) Tryz.underlying27 (by kernel_rfl) (by kernel_rfl) opens50))))))))))))))))))))) (fun x : S29 => (x.f0, x.f1, x.f2, x.f3, x.f4, x.f5, x.f6, x.f7, x.f8, x.f9, x.f10, x.f11, x.f12, x.f13, x.f14, x.f15, x.f16, x.f17, x.f18, x.f19)) (fun y => ⟨y.1, y.2.1, y.2.2.1, y.2.2.2.1, y.2.2.2.2.1, y.2.2.2.2.2.1, y.2.2.2.2.2.2.1, y.2.2.2.2.2.2.2.1, y.2.2.2.2.2.2.2.2.1, y.2.2.2.2.2.2.2.2.2.1, y.2.2.2.2.2.2.2.2.2.2.1, y.2.2.2.2.2.2.2.2.2.2.2.1, y.2.2.2.2.2.2.2.2.2.2.2.2.1, y.2.2.2.2.2.2.2.2.2.2.2.2.2.1, y.2.2.2.2.2.2.2.2.2.2.2.2.2.2.1, y.2.2.2.2.2.2.2.2.2.2.2.2.2.2.2.1, y.2.2.2.2.2.2.2.2.2.2.2.2.2.2.2.2.1, y.2.2.2.2.2.2.2.2.2.2.2.2.2.2.2.2.2.1, y.2.2.2.2.2.2.2.2.2.2.2.2.2.2.2.2.2.2.1, y.2.2.2.2.2.2.2.2.2.2.2.2.2.2.2.2.2.2.2⟩) (fun _ => rfl)
def comptoirlaw19_ResidueBack.A0 (x : S29) : Prop := R29 x
theorem comptoirlaw19_ResidueBack.opens0 : Opens Tryz.prog 29 k29 comptoirlaw19_ResidueBack.A0 := opens29
theorem wf_8 {n : Int} (h : (Lit.int .u8 n).wf = true) : 0 ≤ n ∧ n < 256 := by
  simp [Lit.wf, IntKind.min, IntKind.max, IntKind.signed, IntKind.bits] at h
  omega
theorem wf_64 {n : Int} (h : (Lit.int .u64 n).wf = true) : 0 ≤ n ∧ n < 18446744073709551616 := by
  simp [Lit.wf, IntKind.min, IntKind.max, IntKind.signed, IntKind.bits] at h
  omega
theorem reachl_of {x : S29} (h : comptoirlaw19_ResidueBack.A0 x) : ReachL x := by
  obtain ⟨_, _, _, _, _, _, _, _, _, _, _, _, _, _, _, h15, _, _, h18, h19⟩ := (h : R29 x)
  have q15 : x.f15.length * 32 ≤ 140737488351232 := h15.2.1
  have q18 : x.f18.length * 32 ≤ 140737488351232 := h18.2.1
  have q19 : x.f19.length * 32 ≤ 140737488351232 := h19.2.1
  have d15 : ∀ t ∈ x.f15, R46 t := h15.2.2
  have d19 : ∀ t ∈ x.f19, R50 t := h19.2.2
  refine ⟨by omega, fun t ht => ?_, by omega, by omega, fun t ht => ?_⟩
  · have q : t.f1.length * 1 ≤ 140737488351232 := (d15 t ht).2.2.1
    omega
  · have q : t.f1.length * 1 ≤ 140737488351232 := (d19 t ht).2.2.1
    omega
theorem in29_of {x : S29} (h : comptoirlaw19_ResidueBack.A0 x) : MsgIn x := by
  obtain ⟨_, _, h2, h3, h4, h5, h6, h7, h8, h9, h10, _, h12, h13, h14, h15, h16, h17, h18, h19⟩ := (h : R29 x)
  have q15 : x.f15.length * 32 ≤ 140737488351232 := h15.2.1
  have q18 : x.f18.length * 32 ≤ 140737488351232 := h18.2.1
  have q19 : x.f19.length * 32 ≤ 140737488351232 := h19.2.1
  have d15 : ∀ t ∈ x.f15, R46 t := h15.2.2
  have d18 : ∀ t ∈ x.f18, R48 t := h18.2.2
  have d19 : ∀ t ∈ x.f19, R50 t := h19.2.2
  have s2 : x.f2.size ≤ 140737488351232 := h2
  have s3 : x.f3.size ≤ 140737488351232 := h3
  have s4 : x.f4.size ≤ 140737488351232 := h4
  have s5 : x.f5.size ≤ 140737488351232 := h5
  have s7 : x.f7.size ≤ 140737488351232 := h7
  have s8 : x.f8.size ≤ 140737488351232 := h8
  have s9 : x.f9.size ≤ 140737488351232 := h9
  have s10 : x.f10.size ≤ 140737488351232 := h10
  have s12 : x.f12.size ≤ 140737488351232 := h12
  have s13 : x.f13.size ≤ 140737488351232 := h13
  have s14 : x.f14.f1.size ≤ 140737488351232 := h14.2
  have s16 : x.f16.size ≤ 140737488351232 := h16
  have s17 : x.f17.size ≤ 140737488351232 := h17
  refine ⟨by omega, by omega, by omega, by omega, by omega, by omega, by omega, by omega, by omega, by omega, by omega, by omega, by omega, by omega, fun t ht => ?_, wf_64 h6, by omega, fun t ht => ?_, by omega, fun t ht => ?_⟩
  · have q : t.f1.length * 1 ≤ 140737488351232 := (d15 t ht).2.2.1
    exact ⟨by omega, fun x hx => wf_8 ((d15 t ht).2.2.2 x hx)⟩
  · have q0 : t.f0.size ≤ 140737488351232 := (d18 t ht).1
    have q1 : t.f1.size ≤ 140737488351232 := (d18 t ht).2
    omega
  · have q : t.f1.length * 1 ≤ 140737488351232 := (d19 t ht).2.2.1
    omega
end Go.Proofs.YthapknnppabdaaaGreat.MQ
