/- A map of ints by what it holds: looked up, written, written by entry (the exchange's form), struck. No function of the program in sight. -/
import Derived.Test.YthjcdjanadeobaaHLess
import Derived.Maps.OwnSet
import Derived.WideKeyEntry
namespace Go.Proofs.Ythjcdjanadeobaa.MH
open Go.RowKit Go.Proofs.YthjcdjanadeobaaW.PrintWords Go.Proofs.YthjcdjanadeobaaW.PrintLast Go.Proofs.YthjcdjanadeobaaW.PrintMore
open Go.Maps Go.ChangeMaps
set_option linter.unusedVariables false
set_option linter.unusedSimpArgs false

structure Ent (es : Array MapEntry) (clock : Nat) (f : Int → Option Int) : Prop where
  shape : ∀ (i : Nat) (e : MapEntry), es[i]? = some e → ∃ k v, e.key = .int .i64 k ∧ e.val = .int .i64 v ∧ f k = some v
  all : ∀ (k v : Int), f k = some v → (Lit.int .i64 k).wf = true ∧ ∃ (i : Nat) (e : MapEntry), es[i]? = some e ∧ e.key = .int .i64 k
  keys : ∀ (i j : Nat) (e e' : MapEntry), es[i]? = some e → es[j]? = some e' → e.key = e'.key → i = j
  born : ∀ (i j : Nat) (e e' : MapEntry), es[i]? = some e → es[j]? = some e' → e.born = e'.born → i = j
  old : ∀ (i : Nat) (e : MapEntry), es[i]? = some e → e.born < clock
def MapIs (w : World) (b : Nat) (f : Int → Option Int) : Prop := ∃ es clock, w.heap[b]? = some (.map es clock) ∧ Ent es clock f
def upd (f : Int → Option Int) (k v : Int) : Int → Option Int := fun x => if x = k then some v else f x
def drp (f : Int → Option Int) (k : Int) : Int → Option Int := fun x => if x = k then none else f x
theorem law3 : Keyed Try.prog 3 := int_keyed Try.underlying3
theorem set_grownB (w : World) (b : Nat) (o : Obj) : w.grownBy (setBlock w b o) (some b) :=
  ⟨rfl, rfl, rfl, by simp [setBlock], fun k _ hk => by simp only [setBlock, Array.getElem?_setIfInBounds]; rw [if_neg (fun e => hk (by rw [e]))]⟩
theorem set_here (w : World) (b : Nat) (o : Obj) (h : b < w.heap.size) : (setBlock w b o).heap[b]? = some o := by
  simp only [setBlock, Array.getElem?_setIfInBounds]
  rw [if_pos trivial, if_pos h]
theorem set_same_ (w : World) (b : Nat) (o : Obj) (h : w.heap[b]? = some o) : setBlock w b o = w := by
  have e : w.heap.setIfInBounds b o = w.heap := by
    apply Array.ext_getElem?
    intro i
    rw [Array.getElem?_setIfInBounds]
    by_cases c : b = i
    · subst c
      rw [if_pos rfl, if_pos (blk_lt h), h]
    · rw [if_neg c]
  unfold setBlock
  rw [e]
theorem lit_key {k : Int} (h : (Lit.int .i64 k).wf = true) : keyOf Try.prog 3 (.int .i64 k) = some (.int .i64 k) := keyOf_int_mk Try.underlying3 h
section
variable {es : Array MapEntry} {clock : Nat} {f : Int → Option Int}
theorem Ent.find (h : Ent es clock f) {id : Int} (hw : (Lit.int .i64 id).wf = true) (w : World) :
    (f id = none ∧ (Instr.findKey 3 (.int .i64 id) es.toList).run Try.prog w = .ok none w) ∨
    ∃ (j : Nat) (e : MapEntry) (v : Int), f id = some v ∧ (Instr.findKey 3 (.int .i64 id) es.toList).run Try.prog w = .ok (some (j, .int .i64 v)) w ∧ es[j]? = some e ∧ e.key = .int .i64 id ∧ e.val = .int .i64 v := by
  have hk : ∀ e ∈ es.toList, ∃ l, keyOf Try.prog 3 e.key = some l := by
    intro e he
    obtain ⟨i, hi⟩ := List.getElem?_of_mem he
    rw [Array.getElem?_toList] at hi
    obtain ⟨k, v, e1, e2, e3⟩ := h.shape i e hi
    exact ⟨_, by rw [e1]; exact lit_key (h.all k v e3).1⟩
  rcases law3.find w (lit_key hw) es.toList hk with ⟨h1, h2⟩ | ⟨j, e, h1, h2, h3⟩
  · left
    refine ⟨?_, h1⟩
    cases hf : f id with
    | none => rfl
    | some v =>
      obtain ⟨_, i, e, a, b⟩ := h.all id v hf
      exact absurd b (h2 e (List.mem_of_getElem? (by rw [Array.getElem?_toList]; exact a)))
  · right
    rw [Array.getElem?_toList] at h2
    obtain ⟨k, v, e1, e2, e3⟩ := h.shape j e h2
    have : k = id := by rw [e1] at h3; injection h3
    subst this
    exact ⟨j, e, v, e3, by rw [h1, e2], h2, h3, e2⟩
theorem Ent.set (h : Ent es clock f) {id v0 v : Int} {j : Nat} {e : MapEntry} (hj : es[j]? = some e) (hk : e.key = .int .i64 id) (hf : f id = some v0) : Ent (es.setIfInBounds j { e with val := .int .i64 v }) clock (upd f id v) := by
  have hlt : j < es.size := (Array.getElem?_eq_some_iff.1 hj).1
  have G : ∀ i : Nat, (es.setIfInBounds j { e with val := .int .i64 v })[i]? = if j = i then some { e with val := .int .i64 v } else es[i]? := by
    intro i
    rw [Array.getElem?_setIfInBounds]
    by_cases c : j = i
    · rw [if_pos c, if_pos c, if_pos (by omega)]
    · rw [if_neg c, if_neg c]
  -- key and stamp stay
  have KB : ∀ (i : Nat) (x : MapEntry), (es.setIfInBounds j { e with val := .int .i64 v })[i]? = some x → ∃ y, es[i]? = some y ∧ y.key = x.key ∧ y.born = x.born := by
    intro i x hx
    rw [G] at hx
    by_cases c : j = i
    · subst c
      rw [if_pos rfl] at hx
      injection hx with hx
      subst hx
      exact ⟨e, hj, rfl, rfl⟩
    · rw [if_neg c] at hx
      exact ⟨x, hx, rfl, rfl⟩
  refine ⟨fun i x hx => ?_, fun k u hu => ?_, fun i i' x x' hx hx' hh => ?_, fun i i' x x' hx hx' hh => ?_, fun i x hx => ?_⟩
  · rw [G] at hx
    by_cases c : j = i
    · rw [if_pos c] at hx
      injection hx with hx
      subst hx
      exact ⟨id, v, hk, rfl, by simp [upd]⟩
    · rw [if_neg c] at hx
      obtain ⟨k, u, e1, e2, e3⟩ := h.shape i x hx
      have : k ≠ id := fun ek => c (h.keys j i e x hj hx (by rw [hk, e1, ek]))
      exact ⟨k, u, e1, e2, by unfold upd; rw [if_neg this]; exact e3⟩
  · by_cases c : k = id
    · subst c
      refine ⟨(h.all k v0 hf).1, j, { e with val := .int .i64 v }, by rw [G, if_pos rfl], hk⟩
    · unfold upd at hu
      rw [if_neg c] at hu
      obtain ⟨a, i, x, hx, hxk⟩ := h.all k u hu
      refine ⟨a, i, x, ?_, hxk⟩
      rw [G]
      by_cases cc : j = i
      · subst cc
        rw [hj] at hx
        injection hx with hx
        subst hx
        rw [hk] at hxk
        injection hxk with _ hxk
        exact absurd hxk.symm c
      · rw [if_neg cc]; exact hx
  · obtain ⟨y, a1, a2, _⟩ := KB i x hx
    obtain ⟨y', b1, b2, _⟩ := KB i' x' hx'
    exact h.keys i i' y y' a1 b1 (by rw [a2, b2]; exact hh)
  · obtain ⟨y, a1, _, a2⟩ := KB i x hx
    obtain ⟨y', b1, _, b2⟩ := KB i' x' hx'
    exact h.born i i' y y' a1 b1 (by rw [a2, b2]; exact hh)
  · obtain ⟨y, a1, _, a2⟩ := KB i x hx
    rw [← a2]
    exact h.old i y a1
theorem Ent.push (h : Ent es clock f) {id v : Int} (hw : (Lit.int .i64 id).wf = true) (hf : f id = none) : Ent (es.push { key := .int .i64 id, val := .int .i64 v, born := clock }) (clock + 1) (upd f id v) := by
  have G : ∀ (i : Nat) (x : MapEntry), (es.push { key := .int .i64 id, val := .int .i64 v, born := clock })[i]? = some x → (i = es.size ∧ x = { key := .int .i64 id, val := .int .i64 v, born := clock }) ∨ es[i]? = some x := by
    intro i x hx
    rw [Array.getElem?_push] at hx
    by_cases c : i = es.size
    · rw [if_pos c] at hx
      injection hx with hx
      exact .inl ⟨c, hx.symm⟩
    · rw [if_neg c] at hx
      exact .inr hx
  have NK : ∀ (i : Nat) (x : MapEntry), es[i]? = some x → x.key ≠ .int .i64 id := by
    intro i x hx hxk
    obtain ⟨k, u, e1, e2, e3⟩ := h.shape i x hx
    rw [e1] at hxk
    injection hxk with _ hxk
    subst hxk
    rw [hf] at e3
    cases e3
  refine ⟨fun i x hx => ?_, fun k u hu => ?_, fun i i' x x' hx hx' hh => ?_, fun i i' x x' hx hx' hh => ?_, fun i x hx => ?_⟩
  · rcases G i x hx with ⟨_, rfl⟩ | hx
    · exact ⟨id, v, rfl, rfl, by simp [upd]⟩
    · obtain ⟨k, u, e1, e2, e3⟩ := h.shape i x hx
      have : k ≠ id := fun ek => NK i x hx (by rw [e1, ek])
      exact ⟨k, u, e1, e2, by unfold upd; rw [if_neg this]; exact e3⟩
  · by_cases c : k = id
    · subst c
      exact ⟨hw, es.size, _, by rw [Array.getElem?_push, if_pos rfl], rfl⟩
    · unfold upd at hu
      rw [if_neg c] at hu
      obtain ⟨a, i, x, hx, hxk⟩ := h.all k u hu
      have : i ≠ es.size := by have := (Array.getElem?_eq_some_iff.1 hx).1; omega
      exact ⟨a, i, x, by rw [Array.getElem?_push, if_neg this]; exact hx, hxk⟩
  · rcases G i x hx with ⟨c, rfl⟩ | hx <;> rcases G i' x' hx' with ⟨c', rfl⟩ | hx'
    · omega
    · exact absurd hh.symm (NK i' x' hx')
    · exact absurd hh (NK i x hx)
    · exact h.keys i i' x x' hx hx' hh
  · rcases G i x hx with ⟨c, rfl⟩ | hx <;> rcases G i' x' hx' with ⟨c', rfl⟩ | hx'
    · omega
    · have := h.old i' x' hx'; simp only at hh; omega
    · have := h.old i x hx; simp only at hh; omega
    · exact h.born i i' x x' hx hx' hh
  · rcases G i x hx with ⟨c, rfl⟩ | hx
    · exact Nat.lt_succ_self _
    · have := h.old i x hx; omega
theorem Ent.erase (h : Ent es clock f) {id v0 : Int} {j : Nat} {e : MapEntry} (hj : es[j]? = some e) (hk : e.key = .int .i64 id) (hf : f id = some v0) : Ent (es.eraseIdxIfInBounds j) clock (drp f id) := by
  have hlt : j < es.size := (Array.getElem?_eq_some_iff.1 hj).1
  have G : ∀ i : Nat, (es.eraseIdxIfInBounds j)[i]? = if i < j then es[i]? else es[i + 1]? := by
    intro i
    rw [Array.eraseIdxIfInBounds, dif_pos hlt, Array.getElem?_eraseIdx]
  have G' : ∀ (i : Nat) (x : MapEntry), (es.eraseIdxIfInBounds j)[i]? = some x → ∃ i', es[i']? = some x ∧ i' ≠ j ∧ i' = (if i < j then i else i + 1) := by
    intro i x hx
    rw [G] at hx
    by_cases c : i < j
    · rw [if_pos c] at hx; exact ⟨i, hx, by omega, by rw [if_pos c]⟩
    · rw [if_neg c] at hx; exact ⟨i + 1, hx, by omega, by rw [if_neg c]⟩
  refine ⟨fun i x hx => ?_, fun k u hu => ?_, fun i i' x x' hx hx' hh => ?_, fun i i' x x' hx hx' hh => ?_, fun i x hx => ?_⟩
  · obtain ⟨i', a, b, _⟩ := G' i x hx
    obtain ⟨k, u, e1, e2, e3⟩ := h.shape i' x a
    have : k ≠ id := fun ek => b (h.keys i' j x e a hj (by rw [e1, hk, ek]))
    exact ⟨k, u, e1, e2, by unfold drp; rw [if_neg this]; exact e3⟩
  · unfold drp at hu
    by_cases c : k = id
    · rw [if_pos c] at hu; cases hu
    · rw [if_neg c] at hu
      obtain ⟨a, i, x, hx, hxk⟩ := h.all k u hu
      have hij : i ≠ j := by
        rintro rfl
        rw [hj] at hx
        injection hx with hx
        subst hx
        rw [hk] at hxk
        injection hxk with _ hxk
        exact c hxk.symm
      rcases Nat.lt_or_ge i j with c1 | c1
      · exact ⟨a, i, x, by rw [G, if_pos c1]; exact hx, hxk⟩
      · refine ⟨a, i - 1, x, ?_, hxk⟩
        rw [G, if_neg (by omega), show i - 1 + 1 = i by omega]
        exact hx
  · obtain ⟨y, a1, a2, a3⟩ := G' i x hx
    obtain ⟨y', b1, b2, b3⟩ := G' i' x' hx'
    have := h.keys y y' x x' a1 b1 hh
    split at a3 <;> split at b3 <;> omega
  · obtain ⟨y, a1, a2, a3⟩ := G' i x hx
    obtain ⟨y', b1, b2, b3⟩ := G' i' x' hx'
    have := h.born y y' x x' a1 b1 hh
    split at a3 <;> split at b3 <;> omega
  · obtain ⟨y, a1, a2, a3⟩ := G' i x hx
    exact h.old y x a1
theorem Ent.drp_none (h : Ent es clock f) {id : Int} (hf : f id = none) : Ent es clock (drp f id) := by
  have e : drp f id = f := by
    funext x
    unfold drp
    by_cases c : x = id
    · rw [if_pos c, c, hf]
    · rw [if_neg c]
  rw [e]
  exact h
end
theorem zero3 (w : World) : (zeroValue 3).run Try.prog w = .ok (.int .i64 0) w := by kernel_rfl
section
variable {w : World} {b : Nat} {f : Int → Option Int}
theorem MapIs.kept {w' : World} {row : Option Nat} (h : MapIs w b f) (hg : w.grownBy w' row) (hne : some b ≠ row) : MapIs w' b f := by
  obtain ⟨es, clock, a, r⟩ := h
  exact ⟨es, clock, blk_grown a hg hne, r⟩
theorem MapIs.lt (h : MapIs w b f) : b < w.heap.size := by
  obtain ⟨es, clock, a, r⟩ := h
  exact blk_lt a
theorem MapIs.look (h : MapIs w b f) {id : Int} (hw : (Lit.int .i64 id).wf = true) :
    (Instr.lookup 48 (.map (some b)) (.int .i64 id) true).run Try.prog w = .ok (.tuple #[.int .i64 ((f id).getD 0), .bool (f id).isSome]) w := by
  obtain ⟨es, clock, hb, he⟩ := h
  have hc := fun em => law3.check w em (lit_key hw)
  rcases he.find hw w with ⟨hf, hr⟩ | ⟨j, e, v, hf, hr, _⟩
  · simp [Instr.lookup, run_underlying Try.underlying48, MapKept.run_getObj_map hb, hc, hr, hf, zero3, Result.andThen]
  · simp [Instr.lookup, run_underlying Try.underlying48, MapKept.run_getObj_map hb, hc, hr, hf, Result.andThen]
theorem modify_is (es : Array MapEntry) (j : Nat) (e : MapEntry) (g : MapEntry → MapEntry) (h : es[j]? = some e) : es.modify j g = es.setIfInBounds j (g e) := by
  apply Array.ext_getElem?
  intro i
  rw [Array.getElem?_modify, Array.getElem?_setIfInBounds]
  by_cases c : j = i
  · subst c
    rw [if_pos rfl, if_pos rfl, h, if_pos (Array.getElem?_eq_some_iff.1 h).1]
    rfl
  · rw [if_neg c, if_neg c]
theorem MapIs.put (h : MapIs w b f) {id v : Int} (hw : (Lit.int .i64 id).wf = true) :
    ∃ w', (Instr.mapUpdate 48 (.map (some b)) (.int .i64 id) (.int .i64 v)).run Try.prog w = .ok () w' ∧ MapIs w' b (upd f id v) ∧ w.grownBy w' (some b) := by
  obtain ⟨es, clock, hb, he⟩ := h
  have hc := fun em => law3.check w em (lit_key hw)
  have hs := law3.stays w (lit_key hw)
  rcases he.find hw w with ⟨hf, hr⟩ | ⟨j, e, v0, hf, hr, h1, h2, h3⟩
  · refine ⟨setBlock w b (.map (es.push { key := .int .i64 id, val := .int .i64 v, born := clock }) (clock + 1)), ?_, ⟨_, _, set_here w b _ (blk_lt hb), he.push hw hf⟩, set_grownB w b _⟩
    simp [Instr.mapUpdate, run_underlying Try.underlying48, MapKept.run_getObj_map hb, hc, hr, MapKept.run_setObj_map _ hb, Result.andThen, setBlock]
  · refine ⟨setBlock w b (.map (es.setIfInBounds j { e with val := .int .i64 v }) clock), ?_, ⟨_, _, set_here w b _ (blk_lt hb), he.set h1 h2 hf⟩, set_grownB w b _⟩
    have hm := modify_is es j e (fun x => { x with key := .int .i64 id, val := .int .i64 v }) h1
    have e2 : ({ e with key := Value.int .i64 id, val := Value.int .i64 v } : MapEntry) = { e with val := .int .i64 v } := by rw [← h2]
    rw [e2] at hm
    simp [Instr.mapUpdate, run_underlying Try.underlying48, MapKept.run_getObj_map hb, hc, hr, h1, h2, hs, MapKept.run_setObj_map _ hb, Result.andThen, setBlock, hm]
theorem MapIs.del (h : MapIs w b f) {id : Int} (hw : (Lit.int .i64 id).wf = true) (ty : TypeId) :
    ∃ w', (Builtin.delete_ #[48, 3] ty #[.map (some b), .int .i64 id]).run Try.prog w = .ok (.tuple #[]) w' ∧ MapIs w' b (drp f id) ∧ w.grownBy w' (some b) := by
  obtain ⟨es, clock, hb, he⟩ := h
  have hc := fun em => law3.check w em (lit_key hw)
  rcases he.find hw w with ⟨hf, hr⟩ | ⟨j, e, v0, hf, hr, h1, h2, h3⟩
  · refine ⟨setBlock w b (.map es clock), ?_, ⟨_, _, set_here w b _ (blk_lt hb), he.drp_none hf⟩, set_grownB w b _⟩
    simp [Builtin.delete_, run_underlying Try.underlying48, MapKept.run_getObj_map hb, hc, hr, MapKept.run_setObj_map _ hb, Result.andThen, setBlock]
  · refine ⟨setBlock w b (.map (es.eraseIdxIfInBounds j) clock), ?_, ⟨_, _, set_here w b _ (blk_lt hb), he.erase h1 h2 hf⟩, set_grownB w b _⟩
    simp [Builtin.delete_, run_underlying Try.underlying48, MapKept.run_getObj_map hb, hc, hr, MapKept.run_setObj_map _ hb, Result.andThen, setBlock]
theorem MapIs.entry (h : MapIs w b f) {id v0 : Int} (hf : f id = some v0) :
    ∃ st : Nat, (Instr.mapEntry 48 (.map (some b)) (.int .i64 id)).run Try.prog w = .ok (.tuple #[.int .i64 v0, .int .i64 st]) w ∧
      ∀ v : Int, ∃ w', (Instr.entryStore 48 (.map (some b)) (.int .i64 st) (.int .i64 v)).run Try.prog w = .ok () w' ∧ MapIs w' b (upd f id v) ∧ w.grownBy w' (some b) := by
  obtain ⟨es, clock, hb, he⟩ := h
  have hw := (he.all id v0 hf).1
  have hc := fun em => law3.check w em (lit_key hw)
  have hs := law3.stays w (lit_key hw)
  rcases he.find hw w with ⟨hf', hr⟩ | ⟨j, e, v1, hf', hr, h1, h2, h3⟩
  · rw [hf] at hf'; cases hf'
  · have : v1 = v0 := by rw [hf] at hf'; injection hf' with h; exact h.symm
    subst this
    have hm := modify_is es j e (fun x => { x with key := .int .i64 id }) h1
    have e2 : ({ e with key := Value.int .i64 id } : MapEntry) = e := by rw [← h2]
    rw [e2] at hm
    have hsame : es.setIfInBounds j e = es := by
      apply Array.ext_getElem?
      intro i
      rw [Array.getElem?_setIfInBounds]
      by_cases c : j = i
      · subst c
        rw [if_pos rfl, h1, if_pos (Array.getElem?_eq_some_iff.1 h1).1]
      · rw [if_neg c]
    rw [hsame] at hm
    have hset : ({ w with heap := w.heap.setIfInBounds b (.map es clock) } : World) = w := set_same_ w b _ hb
    refine ⟨e.born, ?_, fun v => ?_⟩
    · simp [Instr.mapEntry, run_underlying Try.underlying48, MapKept.run_getObj_map hb, hc, hr, h1, h2, hs, MapKept.run_setObj_map _ hb, Result.andThen, hm, hset, goInt]
    · refine ⟨setBlock w b (.map (es.setIfInBounds j { e with val := .int .i64 v }) clock), ?_, ⟨_, _, set_here w b _ (blk_lt hb), he.set h1 h2 hf⟩, set_grownB w b _⟩
      have hlt := (Array.getElem?_eq_some_iff.1 h1).1
      have hidx : es.findIdx? (fun x => ((x.born : Nat) : Int) == ((e.born : Nat) : Int)) = some j := by
        rw [Array.findIdx?_eq_some_iff_getElem]
        refine ⟨hlt, ?_, fun i hi => ?_⟩
        · have : es[j] = e := by have := (Array.getElem?_eq_some_iff.1 h1).2; exact this
          rw [this]; simp
        · simp only [beq_iff_eq, Int.natCast_inj]
          intro hbn
          have := he.born i j es[i] e (Array.getElem?_eq_getElem (by omega)) h1 hbn
          omega
      have hm2 := modify_is es j e (fun x => { x with val := .int .i64 v }) h1
      simp [Instr.entryStore, MapKept.run_getObj_map hb, asInt, asIntOf, hidx, MapKept.run_setObj_map _ hb, Result.andThen, setBlock, hm2]
end
end Go.Proofs.Ythjcdjanadeobaa.MH
