/- ResidueBack: part 13 of its proof. -/
import Derived.Test.YthapknnppabdaaaGreatZ12
namespace Go.Proofs.YthapknnppabdaaaGreat.MQ
open Go.RowKit Go.Proofs.YthapknnppabdaaaGreatW.PrintWords Go.Proofs.YthapknnppabdaaaGreatW.PrintLast Go.Proofs.YthapknnppabdaaaGreatW.PrintMore
set_option linter.unusedVariables false
set_option linter.unusedSimpArgs false
def Item.kn : Item → List ByteArray
  | .leaf _ _ => []
  | .sub _ n1 _ n2 _ => [n1, n2]
/-- The names of what stands in the node i. -/
def kidsAt : Nat → List Item → Nat → List ByteArray
  | _, [], _ => []
  | k, it :: r, i => (if i = k then it.kn else []) ++ kidsAt (k + it.len) r i
theorem len_pos (it : Item) : 1 ≤ it.len := by cases it <;> simp [Item.len]
theorem kidsAt_low (l : List Item) : ∀ (k i : Nat), i < k → kidsAt k l i = [] := by
  induction l with
  | nil => intro k i _; rfl
  | cons it r ih => intro k i h; show (if i = k then it.kn else []) ++ kidsAt (k + it.len) r i = []; rw [if_neg (by omega), ih _ _ (by omega)]; rfl
def kn (L : List S133) (i : Int) : List ByteArray := (L.filter fun nd => nd.f0 == i).map fun nd => nd.f1
theorem kn_app (a b : List S133) (i : Int) : kn (a ++ b) i = kn a i ++ kn b i := by unfold kn; rw [List.filter_append, List.map_append]
theorem kn_flat (l : List Item) : ∀ (k i : Nat), 7 ≤ k → 7 ≤ i → kn (flat k l) (i : Int) = kidsAt k l i := by
  induction l with
  | nil => intro k i _ _; rfl
  | cons it r ih =>
    intro k i hk hi
    show kn (it.at k ++ flat (k + it.len) r) (i : Int) = (if i = k then it.kn else []) ++ kidsAt (k + it.len) r i
    rw [kn_app, ih (k + it.len) i (by omega) hi]
    congr 1
    have h6 : ((6 : Int) == (i : Int)) = false := beq_eq_false_iff_ne.mpr (by omega)
    cases it with
    | leaf nm tx => simp [Item.at, Item.kn, kn, h6]
    | sub nm n1 t1 n2 t2 =>
      by_cases e : i = k
      · subst e; simp [Item.at, Item.kn, kn, h6]
      · have hk2 : ((k : Int) == (i : Int)) = false := beq_eq_false_iff_ne.mpr (by omega)
        simp [Item.at, Item.kn, kn, h6, hk2, e]
theorem kn_flat6 (l : List Item) : ∀ k : Nat, 7 ≤ k → kn (flat k l) 6 = l.map Item.nam := by
  induction l with
  | nil => intro k _; rfl
  | cons it r ih =>
    intro k hk
    show kn (it.at k ++ flat (k + it.len) r) 6 = it.nam :: r.map Item.nam
    rw [kn_app, ih _ (by omega)]
    have hk2 : ((k : Int) == 6) = false := beq_eq_false_iff_ne.mpr (by omega)
    cases it with
    | leaf nm tx => simp [Item.at, Item.nam, kn]
    | sub nm n1 t1 n2 t2 => simp [Item.at, Item.nam, kn, hk2]
theorem kn_flat0 (l : List Item) (i : Int) (h0 : i < 6) : ∀ k : Nat, 7 ≤ k → kn (flat k l) i = [] := by
  induction l with
  | nil => intro k _; rfl
  | cons it r ih =>
    intro k hk
    show kn (it.at k ++ flat (k + it.len) r) i = []
    rw [kn_app, ih _ (by omega)]
    have hk2 : ((k : Int) == i) = false := beq_eq_false_iff_ne.mpr (by omega)
    have h6 : ((6 : Int) == i) = false := beq_eq_false_iff_ne.mpr (by omega)
    cases it with
    | leaf nm tx => simp [Item.at, kn, h6]
    | sub nm n1 t1 n2 t2 => simp [Item.at, kn, hk2, h6]
/-- What stands at a place of a body. -/
inductive Loc (k : Nat) (l : List Item) (j : Nat) (nd : S133) : Prop where
  | leaf (nm tx : ByteArray) (h : Item.leaf nm tx ∈ l) (e : nd = ⟨6, nm, tx, []⟩) (hk : kidsAt k l (k + j) = [])
  | head (nm n1 t1 n2 t2 : ByteArray) (h : Item.sub nm n1 t1 n2 t2 ∈ l) (e : nd = ⟨6, nm, ⟨#[]⟩, []⟩) (hk : kidsAt k l (k + j) = [n1, n2])
  | kid (q : Nat) (nm n1 t1 n2 t2 : ByteArray) (h : Item.sub nm n1 t1 n2 t2 ∈ l) (hq : q < j) (e : nd = ⟨((k + q : Nat) : Int), n1, t1, []⟩ ∧ j = q + 1 ∨ nd = ⟨((k + q : Nat) : Int), n2, t2, []⟩ ∧ j = q + 2) (hh : (flat k l)[q]? = some ⟨6, nm, ⟨#[]⟩, []⟩) (h1 : (flat k l)[q + 1]? = some ⟨((k + q : Nat) : Int), n1, t1, []⟩) (hk : kidsAt k l (k + j) = [])
theorem flat_loc (l : List Item) : ∀ (k j : Nat) (nd : S133), (flat k l)[j]? = some nd → Loc k l j nd := by
  induction l with
  | nil => intro k j nd h; cases h
  | cons it r ih =>
    intro k j nd h
    change (it.at k ++ flat (k + it.len) r)[j]? = some nd at h
    by_cases hj : j < it.len
    · rw [List.getElem?_append_left (by rw [at_len]; exact hj)] at h
      have hlow := kidsAt_low r (k + it.len) (k + j) (by omega)
      cases it with
      | leaf nm tx =>
        change kidsAt (k + 1) r (k + j) = [] at hlow
        obtain rfl : j = 0 := by have : j < 1 := hj; omega
        refine .leaf nm tx (List.mem_cons_self ..) (Option.some.inj h).symm ?_
        show (if k + 0 = k then _ else _) ++ kidsAt (k + 1) r (k + 0) = []
        rw [if_pos (by omega), hlow]; rfl
      | sub nm n1 t1 n2 t2 =>
        change kidsAt (k + 3) r (k + j) = [] at hlow
        have h3 : j < 3 := hj
        match j, h3, h, hlow with
        | 0, _, h, hlow =>
          refine .head nm n1 t1 n2 t2 (List.mem_cons_self ..) (Option.some.inj h).symm ?_
          show (if k + 0 = k then _ else _) ++ kidsAt (k + 3) r (k + 0) = _
          rw [if_pos (by omega), hlow]; rfl
        | 1, _, h, hlow =>
          refine .kid 0 nm n1 t1 n2 t2 (List.mem_cons_self ..) (by decide) (.inl ⟨(Option.some.inj h).symm, rfl⟩) rfl rfl ?_
          show (if k + 1 = k then _ else _) ++ kidsAt (k + 3) r (k + 1) = []
          rw [if_neg (by omega), hlow]; rfl
        | 2, _, h, hlow =>
          refine .kid 0 nm n1 t1 n2 t2 (List.mem_cons_self ..) (by decide) (.inr ⟨(Option.some.inj h).symm, rfl⟩) rfl rfl ?_
          show (if k + 2 = k then _ else _) ++ kidsAt (k + 3) r (k + 2) = []
          rw [if_neg (by omega), hlow]; rfl
    · rw [List.getElem?_append_right (by rw [at_len]; omega), at_len] at h
      have hp := len_pos it
      have hK : ∀ i, k + it.len + (j - it.len) = i → kidsAt k (it :: r) (k + j) = kidsAt (k + it.len) r i := fun i hi => by
        show (if k + j = k then it.kn else []) ++ kidsAt (k + it.len) r (k + j) = _
        rw [if_neg (by omega), List.nil_append, ← hi]
        congr 1; omega
      have hG : ∀ q, (flat k (it :: r))[q + it.len]? = (flat (k + it.len) r)[q]? := fun q => by
        show (it.at k ++ flat (k + it.len) r)[q + it.len]? = _
        rw [List.getElem?_append_right (by rw [at_len]; omega), at_len, Nat.add_sub_cancel]
      rcases ih _ _ _ h with ⟨nm, tx, h1, e, hk⟩ | ⟨nm, n1, t1, n2, t2, h1, e, hk⟩ | ⟨q, nm, n1, t1, n2, t2, h1, hq, e, hh, hh1, hk⟩
      · exact .leaf nm tx (List.mem_cons_of_mem _ h1) e (by rw [hK _ rfl]; exact hk)
      · exact .head nm n1 t1 n2 t2 (List.mem_cons_of_mem _ h1) e (by rw [hK _ rfl]; exact hk)
      · have eq : k + it.len + q = k + (q + it.len) := by omega
        rw [eq] at e hh1
        exact .kid (q + it.len) nm n1 t1 n2 t2 (List.mem_cons_of_mem _ h1) (by omega) (by rcases e with ⟨a, b⟩ | ⟨a, b⟩; exact .inl ⟨a, by omega⟩; exact .inr ⟨a, by omega⟩) (by rw [hG]; exact hh) (by rw [show q + it.len + 1 = (q + 1) + it.len by omega, hG]; exact hh1) (by rw [hK _ rfl]; exact hk)
theorem rd_at (L : List S133) (i : Nat) (nd : S133) (h : L[i]? = some nd) : rd_T133 L (i : Int) = nd := by
  unfold rd_T133
  rw [Int.toNat_natCast, List.getD_eq_getElem?_getD, h, Option.getD_some]
theorem kidNames_is (L : List S133) (i : Int) (h0 : 0 ≤ i) (h1 : i < (L.length : Int)) : kidNames L i = kn L i := by
  have H : ∀ n, n ≤ L.length → (kidsTo L i n).map (fun k => (rd_T133 L k).f1) = kn (L.take n) i := by
    intro n
    induction n with
    | zero => intro _; rfl
    | succ n ih =>
      intro hn
      have hlt : n < L.length := by omega
      have e : rd_T133 L (n : Int) = L[n] := rd_at L n _ (List.getElem?_eq_getElem hlt)
      rw [kidsTo_succ, List.take_add_one, List.getElem?_eq_getElem hlt, Option.toList_some, kn_app, ← ih (by omega)]
      unfold kn
      by_cases q : par L (n : Int) = i
      · rw [if_pos q, List.map_append]
        change (rd_T133 L (n : Int)).f0 = i at q
        rw [e] at q
        simp [q, e]
      · rw [if_neg q]
        change ¬ (rd_T133 L (n : Int)).f0 = i at q
        rw [e] at q
        simp [q]
  unfold kidNames kidsIx
  rw [if_pos ⟨h0, h1⟩, H _ (Nat.le_refl _), List.take_of_length_le (Nat.le_refl _)]
theorem kids_nil (L : List S133) (i : Int) (h : kidNames L i = []) : kidsIx L i = [] := by
  unfold kidNames at h
  exact List.map_eq_nil_iff.1 h
theorem runs_names (cs : List S148) : ∀ l, runs cs l → ∀ y ∈ l, ∃ c ∈ cs, y = c.f0 := by
  induction cs with
  | nil => intro l h y hy; rw [show l = [] from h] at hy; cases hy
  | cons c cs ih =>
    intro l h y hy
    obtain ⟨m, rest, rfl, _, _, _, hr⟩ := h
    rcases List.mem_append.1 hy with h1 | h1
    · exact ⟨c, List.mem_cons_self .., List.eq_of_mem_replicate h1⟩
    · obtain ⟨c', hc, e⟩ := ih _ hr y h1
      exact ⟨c', List.mem_cons_of_mem _ hc, e⟩
theorem runs_cons {c : S148} {cs : List S148} {m : Nat} {rest : List ByteArray} (h1 : c.f1 ≤ (m : Int)) (h2 : (m : Int) ≤ c.f2) (hd : cs.all (fun d => d.f0.toList != c.f0.toList) = true) (hr : runs cs rest) : runs (c :: cs) (List.replicate m c.f0 ++ rest) :=
  ⟨m, rest, rfl, h1, h2, fun y hy => by
    obtain ⟨d, hd1, rfl⟩ := runs_names cs _ hr y (List.mem_of_head? hy)
    rw [List.all_eq_true] at hd
    exact bne_iff_ne.1 (hd d hd1), hr⟩
/-- The items of a body are right. -/
structure ItemsOK (its : List Item) : Prop where
  leaf : ∀ nm tx, Item.leaf nm tx ∈ its → (nameF nm = true ∧ nm.size ≤ 1000) ∧ tx.size ≤ 1000000 ∧ (modelF nm).2 = false
  sub : ∀ nm n1 t1 n2 t2, Item.sub nm n1 t1 n2 t2 ∈ its → (nameF nm = true ∧ nm.size ≤ 1000) ∧ (nameF n1 = true ∧ n1.size ≤ 1000) ∧ (nameF n2 = true ∧ n2.size ≤ 1000) ∧ t1.size ≤ 1000000 ∧ t2.size ≤ 1000000 ∧ runs (modelF nm).1 [n1, n2] ∧ (modelF nm).2 = true ∧ (modelF n1).2 = false ∧ (modelF n2).2 = false
  body : runs modelBody (its.map Item.nam)
  len : lenI its ≤ 31
structure BaseOK (x : S29) : Prop where
  s0 : (rowOf x.f0).f0.size ≤ 1000000
  s1 : (decS x.f1).size ≤ 1000000
  s2 : (textF x.f2).size ≤ 1000000
  s3 : x.f3.size ≤ 1000000
theorem model_doc : modelF nDoc = (modelDocument, true) := by kernel_rfl
theorem model_hdr : modelF nHdr = (modelHdr, true) := by kernel_rfl
theorem model_body : modelF nBody = (modelBody, true) := by kernel_rfl
theorem runs_nil : runs [] [] := rfl
theorem kn_base (x : S29) (i : Nat) (h : 7 ≤ i) : kn (base7 x) (i : Int) = [] := by
  have a0 : ((-1 : Int) == (i : Int)) = false := beq_eq_false_iff_ne.mpr (by omega)
  have a1 : ((0 : Int) == (i : Int)) = false := beq_eq_false_iff_ne.mpr (by omega)
  have a2 : ((1 : Int) == (i : Int)) = false := beq_eq_false_iff_ne.mpr (by omega)
  simp [kn, base7, origL, root, a0, a1, a2]
section
variable {x : S29} {its : List Item}
theorem L_len : (base7 x ++ flat 7 its).length = 7 + lenI its := by rw [List.length_append, flat_len]; rfl
/-- A place: one of the first seven, or one of a body. -/
theorem place {i : Nat} (h : i < (base7 x ++ flat 7 its).length) (h7 : 7 ≤ i) : ∃ j nd, i = 7 + j ∧ (flat 7 its)[j]? = some nd ∧ nod (base7 x ++ flat 7 its) i = nd ∧ Loc 7 its j nd := by
  have hl : i - 7 < (flat 7 its).length := by rw [flat_len]; rw [L_len] at h; omega
  have e : (flat 7 its)[i - 7]? = some (flat 7 its)[i - 7] := List.getElem?_eq_getElem hl
  refine ⟨i - 7, _, by omega, e, ?_, flat_loc its 7 (i - 7) _ e⟩
  refine rd_at _ i _ ?_
  rw [List.getElem?_append_right (by rw [base_len]; exact h7), base_len]
  exact e
theorem nod_at {j : Nat} {nd : S133} (h : (flat 7 its)[j]? = some nd) : rd_T133 (base7 x ++ flat 7 its) ((7 + j : Nat) : Int) = nd := by
  refine rd_at _ (7 + j) _ ?_
  rw [List.getElem?_append_right (by rw [base_len]; omega), base_len, show 7 + j - 7 = j by omega]
  exact h
theorem six (i : Nat) (h : i < 7) : i = 0 ∨ i = 1 ∨ i = 2 ∨ i = 3 ∨ i = 4 ∨ i = 5 ∨ i = 6 := by omega
theorem par_of {i : Nat} (h : i < (base7 x ++ flat 7 its).length) (h7 : 7 ≤ i) : par (base7 x ++ flat 7 its) (i : Int) = 6 ∨ ∃ q : Nat, 7 + q < i ∧ par (base7 x ++ flat 7 its) (i : Int) = ((7 + q : Nat) : Int) ∧ par (base7 x ++ flat 7 its) ((7 + q : Nat) : Int) = 6 ∧ (rd_T133 (base7 x ++ flat 7 its) ((7 + q : Nat) : Int)).f2 = ⟨#[]⟩ ∧ (i = 7 + q + 1 ∨ i = 7 + q + 2 ∧ par (base7 x ++ flat 7 its) ((7 + q + 1 : Nat) : Int) = ((7 + q : Nat) : Int)) := by
  obtain ⟨j, nd, hi, hg, hn, hl⟩ := place h h7
  change rd_T133 _ (i : Int) = nd at hn
  rcases hl with ⟨nm, tx, h1, e, hk⟩ | ⟨nm, n1, t1, n2, t2, h1, e, hk⟩ | ⟨q, nm, n1, t1, n2, t2, h1, hq, e, hh, hh1, hk⟩
  · left; show (rd_T133 _ (i : Int)).f0 = 6; rw [hn, e]
  · left; show (rd_T133 _ (i : Int)).f0 = 6; rw [hn, e]
  · right
    have e1 := nod_at (x := x) hh
    have e2 := nod_at (x := x) hh1
    refine ⟨q, by omega, ?_, by show (rd_T133 _ _).f0 = 6; rw [e1], by rw [e1], ?_⟩
    · show (rd_T133 _ (i : Int)).f0 = _
      rw [hn]
      rcases e with ⟨a, b⟩ | ⟨a, b⟩ <;> rw [a]
    · rcases e with ⟨a, b⟩ | ⟨a, b⟩
      · left; omega
      · right
        refine ⟨by omega, ?_⟩
        show (rd_T133 _ _).f0 = _
        rw [show 7 + q + 1 = 7 + (q + 1) by omega, e2]
theorem shape_of (hI : ItemsOK its) (hB : BaseOK x) : Shape (base7 x ++ flat 7 its) := by
  have hlen := L_len (x := x) (its := its)
  have hle := hI.len
  have p0 : par (base7 x ++ flat 7 its) 0 = -1 := rfl
  have p1 : par (base7 x ++ flat 7 its) 1 = 0 := rfl
  have p6 : par (base7 x ++ flat 7 its) 6 = 0 := rfl
  have D0 : Dep (base7 x ++ flat 7 its) 1 0 := .inr (by rw [p0]; show (-1 : Int) < 0; decide)
  have D1 : Dep (base7 x ++ flat 7 its) 2 1 := .inr (by rw [p1]; exact D0)
  have D6 : Dep (base7 x ++ flat 7 its) 2 6 := .inr (by rw [p6]; exact D0)
  have KN : ∀ i : Nat, i < (base7 x ++ flat 7 its).length → kidNames (base7 x ++ flat 7 its) (i : Int) = kn (base7 x) (i : Int) ++ kn (flat 7 its) (i : Int) := fun i hi => by rw [kidNames_is _ _ (by omega) (by omega), kn_app]
  refine { lo := by omega, hi := by omega, tree := ?_, root := rfl, inn := ?_, near := ?_, dep := ?_, nam := ?_, txt := ?_, att0 := rfl, att := ?_, cont := ?_, doc := ?_, mod := ?_, leaf := ?_ }
  · intro i hi
    by_cases h7 : i < 7
    · rcases six i h7 with rfl | rfl | rfl | rfl | rfl | rfl | rfl
      · exact ⟨show (-1 : Int) ≤ (-1 : Int) by decide, show (-1 : Int) < 0 by decide⟩
      · exact ⟨show (-1 : Int) ≤ (0 : Int) by decide, show (0 : Int) < 1 by decide⟩
      · exact ⟨show (-1 : Int) ≤ (1 : Int) by decide, show (1 : Int) < 2 by decide⟩
      · exact ⟨show (-1 : Int) ≤ (1 : Int) by decide, show (1 : Int) < 3 by decide⟩
      · exact ⟨show (-1 : Int) ≤ (1 : Int) by decide, show (1 : Int) < 4 by decide⟩
      · exact ⟨show (-1 : Int) ≤ (1 : Int) by decide, show (1 : Int) < 5 by decide⟩
      · exact ⟨show (-1 : Int) ≤ (0 : Int) by decide, show (0 : Int) < 6 by decide⟩
    · rcases par_of (x := x) hi (by omega) with h | ⟨q, h1, h2, _⟩
      · rw [h]; omega
      · rw [h2]; omega
  · intro i h0 hi
    by_cases h7 : i < 7
    · rcases six i h7 with rfl | rfl | rfl | rfl | rfl | rfl | rfl
      · omega
      · exact (show (0 : Int) ≤ (0 : Int) by decide)
      · exact (show (0 : Int) ≤ (1 : Int) by decide)
      · exact (show (0 : Int) ≤ (1 : Int) by decide)
      · exact (show (0 : Int) ≤ (1 : Int) by decide)
      · exact (show (0 : Int) ≤ (1 : Int) by decide)
      · exact (show (0 : Int) ≤ (0 : Int) by decide)
    · rcases par_of (x := x) hi (by omega) with h | ⟨q, h1, h2, _⟩
      · rw [h]; decide
      · rw [h2]; omega
  · intro i h0 hi
    by_cases h7 : i < 7
    · rcases six i h7 with rfl | rfl | rfl | rfl | rfl | rfl | rfl
      · omega
      · exact .inl rfl
      · exact .inl rfl
      · exact .inr (.inl ⟨(show (0 : Int) ≤ 2 by decide), rfl⟩)
      · exact .inr (.inl ⟨(show (0 : Int) ≤ 3 by decide), rfl⟩)
      · exact .inr (.inl ⟨(show (0 : Int) ≤ 4 by decide), rfl⟩)
      · exact .inr (.inr ⟨(show (0 : Int) ≤ 5 by decide), (show (0 : Int) ≤ 1 by decide), rfl⟩)
    · have e1 : (i : Int) - 1 = ((i - 1 : Nat) : Int) := by omega
      rw [e1]
      rcases par_of (x := x) hi (by omega) with h | ⟨q, h1, h2, h3, _, h4⟩
      · rw [h]
        by_cases h8 : i = 7
        · subst h8; exact .inl rfl
        · rcases par_of (x := x) (its := its) (i := i - 1) (by omega) (by omega) with g | ⟨q, g1, g2, g3, _⟩
          · exact .inr (.inl ⟨by omega, g⟩)
          · exact .inr (.inr ⟨by omega, by rw [g2]; omega, by rw [g2]; exact g3⟩)
      · rw [h2]
        rcases h4 with h4 | ⟨h4, h5⟩
        · left; omega
        · right; left
          refine ⟨by omega, ?_⟩
          rw [show i - 1 = 7 + q + 1 by omega]; exact h5
  · intro i hi
    by_cases h7 : i < 7
    · rcases six i h7 with rfl | rfl | rfl | rfl | rfl | rfl | rfl
      · exact .inr (Dep.neg (show (-1 : Int) < 0 by decide) 3)
      · exact .inr (.inr (Dep.neg (show (-1 : Int) < 0 by decide) 2))
      · exact .inr (.inr (.inr (Dep.neg (show (-1 : Int) < 0 by decide) 1)))
      · exact .inr (.inr (.inr (Dep.neg (show (-1 : Int) < 0 by decide) 1)))
      · exact .inr (.inr (.inr (Dep.neg (show (-1 : Int) < 0 by decide) 1)))
      · exact .inr (.inr (.inr (Dep.neg (show (-1 : Int) < 0 by decide) 1)))
      · exact .inr (.inr (Dep.neg (show (-1 : Int) < 0 by decide) 2))
    · rcases par_of (x := x) hi (by omega) with h | ⟨q, h1, h2, h3, _⟩
      · refine .inr ?_
        rw [h]
        exact .inr (.inr (Dep.neg (show (-1 : Int) < 0 by decide) 1))
      · refine .inr ?_
        rw [h2]
        refine .inr ?_
        rw [h3]
        exact D6
  · intro i hi
    by_cases h7 : i < 7
    · rcases six i h7 with rfl | rfl | rfl | rfl | rfl | rfl | rfl
      · exact (show nameF nDoc = true ∧ nDoc.size ≤ 1000 by decide +kernel)
      · exact (show nameF nHdr = true ∧ nHdr.size ≤ 1000 by decide +kernel)
      · exact (show nameF nMsgFctn = true ∧ nMsgFctn.size ≤ 1000 by decide +kernel)
      · exact (show nameF nXchgId = true ∧ nXchgId.size ≤ 1000 by decide +kernel)
      · exact (show nameF nCreDtTm = true ∧ nCreDtTm.size ≤ 1000 by decide +kernel)
      · exact (show nameF nInitgPty = true ∧ nInitgPty.size ≤ 1000 by decide +kernel)
      · exact (show nameF nBody = true ∧ nBody.size ≤ 1000 by decide +kernel)
    · obtain ⟨j, nd, hij, hg, hn, hl⟩ := place (x := x) hi (by omega)
      rw [hn]
      rcases hl with ⟨nm, tx, h1, e, hk⟩ | ⟨nm, n1, t1, n2, t2, h1, e, hk⟩ | ⟨q, nm, n1, t1, n2, t2, h1, hq, e, hh, hh1, hk⟩
      · rw [e]; exact (hI.leaf _ _ h1).1
      · rw [e]; exact (hI.sub _ _ _ _ _ h1).1
      · rcases e with ⟨a, b⟩ | ⟨a, b⟩
        · rw [a]; exact (hI.sub _ _ _ _ _ h1).2.1
        · rw [a]; exact (hI.sub _ _ _ _ _ h1).2.2.1
  · intro i hi
    by_cases h7 : i < 7
    · rcases six i h7 with rfl | rfl | rfl | rfl | rfl | rfl | rfl
      · show (⟨#[]⟩ : ByteArray).size ≤ 1000000; decide
      · show (⟨#[]⟩ : ByteArray).size ≤ 1000000; decide
      · exact hB.s0
      · exact hB.s1
      · exact hB.s2
      · exact hB.s3
      · show (⟨#[]⟩ : ByteArray).size ≤ 1000000; decide
    · obtain ⟨j, nd, hij, hg, hn, hl⟩ := place (x := x) hi (by omega)
      rw [hn]
      rcases hl with ⟨nm, tx, h1, e, hk⟩ | ⟨nm, n1, t1, n2, t2, h1, e, hk⟩ | ⟨q, nm, n1, t1, n2, t2, h1, hq, e, hh, hh1, hk⟩
      · rw [e]; exact (hI.leaf _ _ h1).2.1
      · rw [e]; show (⟨#[]⟩ : ByteArray).size ≤ 1000000; decide
      · rcases e with ⟨a, b⟩ | ⟨a, b⟩
        · rw [a]; exact (hI.sub _ _ _ _ _ h1).2.2.2.1
        · rw [a]; exact (hI.sub _ _ _ _ _ h1).2.2.2.2.1
  · intro i h0 hi
    by_cases h7 : i < 7
    · rcases six i h7 with rfl | rfl | rfl | rfl | rfl | rfl | rfl
      · omega
      all_goals rfl
    · obtain ⟨j, nd, hij, hg, hn, hl⟩ := place (x := x) hi (by omega)
      rw [hn]
      rcases hl with ⟨nm, tx, h1, e, hk⟩ | ⟨nm, n1, t1, n2, t2, h1, e, hk⟩ | ⟨q, nm, n1, t1, n2, t2, h1, hq, e, hh, hh1, hk⟩
      · rw [e]
      · rw [e]
      · rcases e with ⟨a, b⟩ | ⟨a, b⟩ <;> rw [a]
  · intro i h0 hi
    by_cases h7 : i < 7
    · rcases six i h7 with rfl | rfl | rfl | rfl | rfl | rfl | rfl
      · omega
      all_goals rfl
    · rcases par_of (x := x) hi (by omega) with h | ⟨q, h1, h2, _, h3, _⟩
      · rw [h]; rfl
      · rw [h2]; exact h3
  · exact (show nDoc.toList = [68, 111, 99, 117, 109, 101, 110, 116] by decide +kernel)
  · intro i hi hm
    by_cases h7 : i < 7
    · rw [KN i hi]
      rcases six i h7 with rfl | rfl | rfl | rfl | rfl | rfl | rfl
      · refine ⟨rfl, ?_⟩
        rw [show ((0 : Nat) : Int) = 0 from rfl, kn_flat0 its 0 (by decide) 7 (by decide), List.append_nil]
        show runs (modelF nDoc).1 [nHdr, nBody]
        rw [model_doc]
        exact runs_cons (c := ⟨nHdr, 1, 1, 8, 0, 0⟩) (m := 1) (by decide) (by decide) (by decide +kernel) (runs_cons (c := ⟨nBody, 1, 1, 8, 0, 0⟩) (m := 1) (cs := []) (rest := []) (by decide) (by decide) (by decide +kernel) runs_nil)
      · refine ⟨rfl, ?_⟩
        rw [show ((1 : Nat) : Int) = 1 from rfl, kn_flat0 its 1 (by decide) 7 (by decide), List.append_nil]
        show runs (modelF nHdr).1 [nMsgFctn, nXchgId, nCreDtTm, nInitgPty]
        rw [model_hdr]
        exact runs_cons (c := ⟨nMsgFctn, 1, 1, 3, 4, 4⟩) (m := 1) (by decide) (by decide) (by decide +kernel) (runs_cons (c := ⟨nXchgId, 1, 1, 1, 1, 6⟩) (m := 1) (by decide) (by decide) (by decide +kernel) (runs_cons (c := ⟨nCreDtTm, 1, 1, 4, 19, 19⟩) (m := 1) (by decide) (by decide) (by decide +kernel) (runs_cons (c := ⟨nInitgPty, 1, 1, 1, 1, 11⟩) (m := 1) (cs := []) (rest := []) (by decide) (by decide) (by decide +kernel) runs_nil)))
      · exact absurd hm (show ¬ (modelF nMsgFctn).2 = true by decide +kernel)
      · exact absurd hm (show ¬ (modelF nXchgId).2 = true by decide +kernel)
      · exact absurd hm (show ¬ (modelF nCreDtTm).2 = true by decide +kernel)
      · exact absurd hm (show ¬ (modelF nInitgPty).2 = true by decide +kernel)
      · refine ⟨rfl, ?_⟩
        rw [show ((6 : Nat) : Int) = 6 from rfl, kn_flat6 its 7 (by decide)]
        show runs (modelF nBody).1 (its.map Item.nam)
        rw [model_body]
        exact hI.body
    · rw [KN i hi, kn_base x i (by omega), kn_flat its 7 i (by decide) (by omega), List.nil_append]
      obtain ⟨j, nd, hij, hg, hn, hl⟩ := place (x := x) hi (by omega)
      rw [hn] at hm ⊢
      rw [hij]
      rcases hl with ⟨nm, tx, h1, e, hk⟩ | ⟨nm, n1, t1, n2, t2, h1, e, hk⟩ | ⟨q, nm, n1, t1, n2, t2, h1, hq, e, hh, hh1, hk⟩
      · rw [e] at hm; exact absurd hm (by have := (hI.leaf _ _ h1).2.2; show ¬ (modelF nm).2 = true; rw [this]; decide)
      · rw [hk, e]; exact ⟨rfl, (hI.sub _ _ _ _ _ h1).2.2.2.2.2.1⟩
      · rcases e with ⟨a, b⟩ | ⟨a, b⟩
        · rw [a] at hm; exact absurd hm (by have := (hI.sub _ _ _ _ _ h1).2.2.2.2.2.2.2.1; show ¬ (modelF n1).2 = true; rw [this]; decide)
        · rw [a] at hm; exact absurd hm (by have := (hI.sub _ _ _ _ _ h1).2.2.2.2.2.2.2.2; show ¬ (modelF n2).2 = true; rw [this]; decide)
  · intro i hi hm
    by_cases h7 : i < 7
    · rcases six i h7 with rfl | rfl | rfl | rfl | rfl | rfl | rfl
      · exact absurd hm (show ¬ (modelF nDoc).2 = false by decide +kernel)
      · exact absurd hm (show ¬ (modelF nHdr).2 = false by decide +kernel)
      · refine ⟨by decide, kids_nil _ _ ?_⟩; rw [KN _ hi, show ((2 : Nat) : Int) = 2 from rfl, kn_flat0 its 2 (by decide) 7 (by decide)]; rfl
      · refine ⟨by decide, kids_nil _ _ ?_⟩; rw [KN _ hi, show ((3 : Nat) : Int) = 3 from rfl, kn_flat0 its 3 (by decide) 7 (by decide)]; rfl
      · refine ⟨by decide, kids_nil _ _ ?_⟩; rw [KN _ hi, show ((4 : Nat) : Int) = 4 from rfl, kn_flat0 its 4 (by decide) 7 (by decide)]; rfl
      · refine ⟨by decide, kids_nil _ _ ?_⟩; rw [KN _ hi, show ((5 : Nat) : Int) = 5 from rfl, kn_flat0 its 5 (by decide) 7 (by decide)]; rfl
      · exact absurd hm (show ¬ (modelF nBody).2 = false by decide +kernel)
    · refine ⟨by omega, kids_nil _ _ ?_⟩
      rw [KN i hi, kn_base x i (by omega), kn_flat its 7 i (by decide) (by omega), List.nil_append]
      obtain ⟨j, nd, hij, hg, hn, hl⟩ := place (x := x) hi (by omega)
      rw [hn] at hm
      rw [hij]
      rcases hl with ⟨nm, tx, h1, e, hk⟩ | ⟨nm, n1, t1, n2, t2, h1, e, hk⟩ | ⟨q, nm, n1, t1, n2, t2, h1, hq, e, hh, hh1, hk⟩
      · exact hk
      · rw [e] at hm; exact absurd hm (by have := (hI.sub _ _ _ _ _ h1).2.2.2.2.2.2.1; show ¬ (modelF nm).2 = false; rw [this]; decide)
      · exact hk
end
end Go.Proofs.YthapknnppabdaaaGreat.MQ
namespace Go.Proofs.YthapknnppabdaaaGreat.MQ
open Go.RowKit Go.Proofs.YthapknnppabdaaaGreatW.PrintWords Go.Proofs.YthapknnppabdaaaGreatW.PrintLast Go.Proofs.YthapknnppabdaaaGreatW.PrintMore
set_option linter.unusedVariables false
set_option linter.unusedSimpArgs false
def SimC (c : S148) (t : ByteArray) : Prop := SimOK c.f3 c.f4 c.f5 t
def ItemGood : Item → Prop
  | .leaf nm tx => (bs tx).all ink = true ∧ SimC (childF modelBody nm) tx
  | .sub nm n1 t1 n2 t2 => (bs t1).all ink = true ∧ (bs t2).all ink = true ∧ SimC (childF (modelF nm).1 n1) t1 ∧ SimC (childF (modelF nm).1 n2) t2
/-- What the head says is right. -/
structure BaseGood (x : S29) : Prop where
  code : capF (rowOf x.f0).f0 4 = true
  stan : rightF (decS x.f1) 1 6 = true
  time : timeF x.f2 = true
  acq : rightF x.f3 1 11 = true
theorem dig_ink {c : Int} (h : dig c = true) : ink c = true := by
  unfold dig at h; unfold ink
  rw [Bool.and_eq_true, decide_eq_true_eq, decide_eq_true_eq] at h ⊢
  omega
theorem all_mono {f g : Int → Bool} (h : ∀ c, f c = true → g c = true) {l : List Int} (hl : l.all f = true) : l.all g = true := by
  rw [List.all_eq_true] at hl ⊢
  exact fun c hc => h c (hl c hc)
theorem right_ink {s : ByteArray} {a b : Int} (h : rightF s a b = true) : (bs s).all ink = true := all_mono (fun _ => dig_ink) (right_iff.1 h).1
theorem cap_ink {s : ByteArray} {n : Int} (h : capF s n = true) : (bs s).all ink = true := by
  unfold capF at h
  rw [Bool.and_eq_true] at h
  refine all_mono (fun c hc => ?_) h.1
  unfold cap at hc; unfold ink
  rw [Bool.and_eq_true, decide_eq_true_eq, decide_eq_true_eq] at hc ⊢
  omega
theorem stamp_ink {s : ByteArray} (h : timeF s = true) : (bs (textF s)).all ink = true := by
  have hr := (right_iff.1 (timeF_right h)).1
  have hI : (bs s).all ink = true := all_mono (fun _ => dig_ink) hr
  have hx : ∀ i j, (bs (s.extract i j)).all ink = true := fun i j => by
    rw [bs_extract]
    rw [List.all_eq_true] at hI ⊢
    exact fun c hc => hI c (List.mem_of_mem_take (List.mem_of_mem_drop hc))
  have b45 : (bs ⟨#[45]⟩).all ink = true := rfl
  have b84 : (bs ⟨#[84]⟩).all ink = true := rfl
  have b58 : (bs ⟨#[58]⟩).all ink = true := rfl
  unfold textF
  rw [if_pos h]
  unfold stamp
  simp only [bs_append, List.all_append, hx, b45, b84, b58]
  rfl
theorem child_head1 : childF modelHdr nMsgFctn = ⟨nMsgFctn, 1, 1, 3, 4, 4⟩ := by kernel_rfl
theorem child_head2 : childF modelHdr nXchgId = ⟨nXchgId, 1, 1, 1, 1, 6⟩ := by kernel_rfl
theorem child_head3 : childF modelHdr nCreDtTm = ⟨nCreDtTm, 1, 1, 4, 19, 19⟩ := by kernel_rfl
theorem child_head4 : childF modelHdr nInitgPty = ⟨nInitgPty, 1, 1, 1, 1, 11⟩ := by kernel_rfl
theorem sim1 {lo hi : Int} {s : ByteArray} (h : rightF s lo hi = true) : SimOK 1 lo hi s := ⟨fun _ => h, fun e => absurd e (by decide), fun e => absurd e (by decide), fun e => absurd e (by decide), fun e => absurd e (by decide), fun e => absurd e (by decide), fun e => absurd e (by decide), by decide, by decide⟩
theorem sim2 {lo hi : Int} {s : ByteArray} (h : PlainA s lo hi) : SimOK 2 lo hi s := ⟨fun e => absurd e (by decide), fun _ => h, fun e => absurd e (by decide), fun e => absurd e (by decide), fun e => absurd e (by decide), fun e => absurd e (by decide), fun e => absurd e (by decide), by decide, by decide⟩
theorem sim3 {lo hi : Int} {s : ByteArray} (h : capF s 4 = true) : SimOK 3 lo hi s := ⟨fun e => absurd e (by decide), fun e => absurd e (by decide), fun _ => h, fun e => absurd e (by decide), fun e => absurd e (by decide), fun e => absurd e (by decide), fun e => absurd e (by decide), by decide, by decide⟩
theorem sim4 {lo hi : Int} {s : ByteArray} (h : ofE s = 0) : SimOK 4 lo hi s := ⟨fun e => absurd e (by decide), fun e => absurd e (by decide), fun e => absurd e (by decide), fun _ => h, fun e => absurd e (by decide), fun e => absurd e (by decide), fun e => absurd e (by decide), by decide, by decide⟩
theorem sim5 {lo hi : Int} {s : ByteArray} (h : amtOfE s = 0) : SimOK 5 lo hi s := ⟨fun e => absurd e (by decide), fun e => absurd e (by decide), fun e => absurd e (by decide), fun e => absurd e (by decide), fun _ => h, fun e => absurd e (by decide), fun e => absurd e (by decide), by decide, by decide⟩
theorem sim6 {lo hi : Int} {s : ByteArray} (h : alnF s lo hi = true) : SimOK 6 lo hi s := ⟨fun e => absurd e (by decide), fun e => absurd e (by decide), fun e => absurd e (by decide), fun e => absurd e (by decide), fun e => absurd e (by decide), fun _ => h, fun e => absurd e (by decide), by decide, by decide⟩
theorem sim7 {lo hi : Int} {s : ByteArray} (h : hexE s = 0) (h1 : lo ≤ (s.size : Int)) (h2 : (s.size : Int) ≤ hi) : SimOK 7 lo hi s := ⟨fun e => absurd e (by decide), fun e => absurd e (by decide), fun e => absurd e (by decide), fun e => absurd e (by decide), fun e => absurd e (by decide), fun e => absurd e (by decide), fun _ => ⟨h, h1, h2⟩, by decide, by decide⟩
section
variable {x : S29} {its : List Item}
theorem texts_of (hG : ∀ it ∈ its, ItemGood it) (hB : BaseGood x) : TextsOK (base7 x ++ flat 7 its) := by
  intro i hi
  by_cases h7 : i < 7
  · rcases six i h7 with rfl | rfl | rfl | rfl | rfl | rfl | rfl
    · rfl
    · rfl
    · exact cap_ink hB.code
    · exact right_ink hB.stan
    · exact stamp_ink hB.time
    · exact right_ink hB.acq
    · rfl
  · obtain ⟨j, nd, hij, hg, hn, hl⟩ := place (x := x) hi (by omega)
    rw [hn]
    rcases hl with ⟨nm, tx, h1, e, hk⟩ | ⟨nm, n1, t1, n2, t2, h1, e, hk⟩ | ⟨q, nm, n1, t1, n2, t2, h1, hq, e, hh, hh1, hk⟩
    · rw [e]; exact (hG _ h1).1
    · rw [e]; rfl
    · rcases e with ⟨a, b⟩ | ⟨a, b⟩
      · rw [a]; exact (hG _ h1).1
      · rw [a]; exact (hG _ h1).2.1
theorem leaves_of (hI : ItemsOK its) (hG : ∀ it ∈ its, ItemGood it) (hB : BaseGood x) : LeavesOK (base7 x ++ flat 7 its) := by
  intro i hi hm
  by_cases h7 : i < 7
  · rcases six i h7 with rfl | rfl | rfl | rfl | rfl | rfl | rfl
    · exact absurd hm (show ¬ (modelF nDoc).2 = false by decide +kernel)
    · exact absurd hm (show ¬ (modelF nHdr).2 = false by decide +kernel)
    · show SimC (childF (modelF nHdr).1 nMsgFctn) _
      rw [model_hdr, child_head1]; exact sim3 hB.code
    · show SimC (childF (modelF nHdr).1 nXchgId) _
      rw [model_hdr, child_head2]; exact sim1 hB.stan
    · show SimC (childF (modelF nHdr).1 nCreDtTm) (textF x.f2)
      rw [model_hdr, child_head3]
      refine sim4 ?_
      unfold textF
      rw [if_pos hB.time]
      exact ofE_ok hB.time
    · show SimC (childF (modelF nHdr).1 nInitgPty) _
      rw [model_hdr, child_head4]; exact sim1 hB.acq
    · exact absurd hm (show ¬ (modelF nBody).2 = false by decide +kernel)
  · obtain ⟨j, nd, hij, hg, hn, hl⟩ := place (x := x) hi (by omega)
    have hn' : rd_T133 (base7 x ++ flat 7 its) (i : Int) = nd := hn
    show SimC (childF (modelF (rd_T133 _ (rd_T133 _ (i : Int)).f0).f1).1 (nod _ i).f1) (nod _ i).f2
    rw [hn', hn]
    rcases hl with ⟨nm, tx, h1, e, hk⟩ | ⟨nm, n1, t1, n2, t2, h1, e, hk⟩ | ⟨q, nm, n1, t1, n2, t2, h1, hq, e, hh, hh1, hk⟩
    · rw [e]
      show SimC (childF (modelF nBody).1 nm) tx
      rw [model_body]
      exact (hG _ h1).2
    · rw [hn, e] at hm; exact absurd hm (by have := (hI.sub _ _ _ _ _ h1).2.2.2.2.2.2.1; show ¬ (modelF nm).2 = false; rw [this]; decide)
    · have e1 := nod_at (x := x) hh
      rcases e with ⟨a, b⟩ | ⟨a, b⟩
      · rw [a]; show SimC (childF (modelF (rd_T133 _ ((7 + q : Nat) : Int)).f1).1 n1) t1
        rw [e1]; exact (hG _ h1).2.2.1
      · rw [a]; show SimC (childF (modelF (rd_T133 _ ((7 + q : Nat) : Int)).f1).1 n2) t2
        rw [e1]; exact (hG _ h1).2.2.2
end
end Go.Proofs.YthapknnppabdaaaGreat.MQ
namespace Go.Proofs.YthapknnppabdaaaGreat.MQ
open Go.RowKit Go.Proofs.YthapknnppabdaaaGreatW.PrintWords Go.Proofs.YthapknnppabdaaaGreatW.PrintLast Go.Proofs.YthapknnppabdaaaGreatW.PrintMore
set_option linter.unusedVariables false
set_option linter.unusedSimpArgs false
theorem leaf_nPAN : (nameF nPAN = true ∧ nPAN.size ≤ 1000) ∧ (modelF nPAN).2 = false := by decide +kernel
theorem child_nPAN : childF modelBody nPAN = ⟨nPAN, 0, 1, 1, 12, 19⟩ := by kernel_rfl
theorem leaf_nTtlAmt : (nameF nTtlAmt = true ∧ nTtlAmt.size ≤ 1000) ∧ (modelF nTtlAmt).2 = false := by decide +kernel
theorem child_nTtlAmt : childF modelBody nTtlAmt = ⟨nTtlAmt, 0, 1, 5, 4, 13⟩ := by kernel_rfl
theorem leaf_nCcy : (nameF nCcy = true ∧ nCcy.size ≤ 1000) ∧ (modelF nCcy).2 = false := by decide +kernel
theorem child_nCcy : childF modelBody nCcy = ⟨nCcy, 0, 1, 1, 3, 3⟩ := by kernel_rfl
theorem leaf_nRRN : (nameF nRRN = true ∧ nRRN.size ≤ 1000) ∧ (modelF nRRN).2 = false := by decide +kernel
theorem child_nRRN : childF modelBody nRRN = ⟨nRRN, 0, 1, 6, 12, 12⟩ := by kernel_rfl
theorem leaf_nMrchntId : (nameF nMrchntId = true ∧ nMrchntId.size ≤ 1000) ∧ (modelF nMrchntId).2 = false := by decide +kernel
theorem child_nMrchntId : childF modelBody nMrchntId = ⟨nMrchntId, 0, 1, 2, 1, 35⟩ := by kernel_rfl
theorem leaf_nTermnlId : (nameF nTermnlId = true ∧ nTermnlId.size ≤ 1000) ∧ (modelF nTermnlId).2 = false := by decide +kernel
theorem child_nTermnlId : childF modelBody nTermnlId = ⟨nTermnlId, 0, 1, 2, 1, 35⟩ := by kernel_rfl
theorem leaf_nNtryMd : (nameF nNtryMd = true ∧ nNtryMd.size ≤ 1000) ∧ (modelF nNtryMd).2 = false := by decide +kernel
theorem child_nNtryMd : childF modelBody nNtryMd = ⟨nNtryMd, 0, 1, 1, 1, 3⟩ := by kernel_rfl
theorem leaf_nRspn : (nameF nRspn = true ∧ nRspn.size ≤ 1000) ∧ (modelF nRspn).2 = false := by decide +kernel
theorem child_nRspn : childF modelBody nRspn = ⟨nRspn, 0, 1, 3, 4, 4⟩ := by kernel_rfl
theorem leaf_nRspnRsn : (nameF nRspnRsn = true ∧ nRspnRsn.size ≤ 1000) ∧ (modelF nRspnRsn).2 = false := by decide +kernel
theorem child_nRspnRsn : childF modelBody nRspnRsn = ⟨nRspnRsn, 0, 1, 3, 4, 4⟩ := by kernel_rfl
theorem leaf_nAuthstnCd : (nameF nAuthstnCd = true ∧ nAuthstnCd.size ≤ 1000) ∧ (modelF nAuthstnCd).2 = false := by decide +kernel
theorem child_nAuthstnCd : childF modelBody nAuthstnCd = ⟨nAuthstnCd, 0, 1, 6, 6, 6⟩ := by kernel_rfl
theorem leaf_nRsn : (nameF nRsn = true ∧ nRsn.size ≤ 1000) ∧ (modelF nRsn).2 = false := by decide +kernel
theorem child_nRsn : childF modelBody nRsn = ⟨nRsn, 0, 1, 1, 4, 4⟩ := by kernel_rfl
theorem leaf_nICCData : (nameF nICCData = true ∧ nICCData.size ≤ 1000) ∧ (modelF nICCData).2 = false := by decide +kernel
theorem child_nICCData : childF modelBody nICCData = ⟨nICCData, 0, 1, 7, 2, 510⟩ := by kernel_rfl
theorem leaf_nNote : (nameF nNote = true ∧ nNote.size ≤ 1000) ∧ (modelF nNote).2 = false := by decide +kernel
theorem child_nNote : childF modelBody nNote = ⟨nNote, 0, 1, 2, 1, 140⟩ := by kernel_rfl
theorem leaf_nRsdlKey : (nameF nRsdlKey = true ∧ nRsdlKey.size ≤ 1000) ∧ (modelF nRsdlKey).2 = false := by decide +kernel
theorem child_nRsdlKey : childF modelBody nRsdlKey = ⟨nRsdlKey, 0, 1, 7, 8, 8⟩ := by kernel_rfl
theorem sub_org : (nameF nOrgnlTx = true ∧ nOrgnlTx.size ≤ 1000) ∧ (nameF nXchgId = true ∧ nXchgId.size ≤ 1000) ∧ (nameF nCreDtTm = true ∧ nCreDtTm.size ≤ 1000) ∧ (modelF nOrgnlTx).2 = true ∧ (modelF nXchgId).2 = false ∧ (modelF nCreDtTm).2 = false := by decide +kernel
theorem sub_spl : (nameF nSplmtryData = true ∧ nSplmtryData.size ≤ 1000) ∧ (nameF nNm = true ∧ nNm.size ≤ 1000) ∧ (nameF nVal = true ∧ nVal.size ≤ 1000) ∧ (modelF nSplmtryData).2 = true ∧ (modelF nNm).2 = false ∧ (modelF nVal).2 = false := by decide +kernel
theorem model_org : modelF nOrgnlTx = (modelOrgnlTx, true) := by kernel_rfl
theorem model_spl : modelF nSplmtryData = (modelSplmtryData, true) := by kernel_rfl
theorem runs_org : runs modelOrgnlTx [nXchgId, nCreDtTm] := runs_cons (c := ⟨nXchgId, 1, 1, 1, 1, 6⟩) (m := 1) (by decide) (by decide) (by decide +kernel) (runs_cons (c := ⟨nCreDtTm, 1, 1, 4, 19, 19⟩) (m := 1) (cs := []) (rest := []) (by decide) (by decide) (by decide +kernel) runs_nil)
theorem runs_spl : runs modelSplmtryData [nNm, nVal] := runs_cons (c := ⟨nNm, 1, 1, 2, 1, 20⟩) (m := 1) (by decide) (by decide) (by decide +kernel) (runs_cons (c := ⟨nVal, 1, 1, 2, 1, 100⟩) (m := 1) (cs := []) (rest := []) (by decide) (by decide) (by decide +kernel) runs_nil)
theorem child_org1 : childF modelOrgnlTx nXchgId = ⟨nXchgId, 1, 1, 1, 1, 6⟩ := by kernel_rfl
theorem child_org2 : childF modelOrgnlTx nCreDtTm = ⟨nCreDtTm, 1, 1, 4, 19, 19⟩ := by kernel_rfl
theorem child_spl1 : childF modelSplmtryData nNm = ⟨nNm, 1, 1, 2, 1, 20⟩ := by kernel_rfl
theorem child_spl2 : childF modelSplmtryData nVal = ⟨nVal, 1, 1, 2, 1, 100⟩ := by kernel_rfl
theorem nam_opt (n t : ByteArray) : ∃ m, m ≤ 1 ∧ (optI n t).map Item.nam = List.replicate m n := by
  unfold optI; split
  · exact ⟨0, by decide, rfl⟩
  · exact ⟨1, by decide, rfl⟩
theorem nam_cur (x : S29) : ∃ m, m ≤ 1 ∧ (curI x).map Item.nam = List.replicate m nTtlAmt ++ List.replicate m nCcy := by
  unfold curI; split
  · exact ⟨0, by decide, rfl⟩
  · exact ⟨1, by decide, rfl⟩
theorem nam_ent (x : S29) : ∃ m, m ≤ 1 ∧ (entI x).map Item.nam = List.replicate m nNtryMd := by
  unfold entI; split
  · exact ⟨0, by decide, rfl⟩
  · exact ⟨1, by decide, rfl⟩
theorem nam_org (x : S29) : ∃ m, m ≤ 1 ∧ (orgI x).map Item.nam = List.replicate m nOrgnlTx := by
  unfold orgI; split
  · exact ⟨0, by decide, rfl⟩
  · exact ⟨1, by decide, rfl⟩
theorem nam_ext (x : S29) : (extI x).map Item.nam = List.replicate x.f18.length nSplmtryData := by
  unfold extI
  rw [List.map_map]
  exact List.eq_replicate_iff.2 ⟨by rw [List.length_map], fun y hy => by obtain ⟨_, _, rfl⟩ := List.mem_map.1 hy; rfl⟩
theorem runs_body (x : S29) (hx : ByteArray) (h4 : x.f18.length ≤ 4) : runs modelBody ((itemsOf x hx).map Item.nam) := by
  obtain ⟨mPAN, hPAN, ePAN⟩ := nam_opt nPAN x.f4
  obtain ⟨mCUR, hCUR, eCUR⟩ := nam_cur x
  obtain ⟨mRRN, hRRN, eRRN⟩ := nam_opt nRRN x.f7
  obtain ⟨mMER, hMER, eMER⟩ := nam_opt nMrchntId x.f8
  obtain ⟨mTER, hTER, eTER⟩ := nam_opt nTermnlId x.f9
  obtain ⟨mENT, hENT, eENT⟩ := nam_ent x
  obtain ⟨mRSP, hRSP, eRSP⟩ := nam_opt nRspn (wordsF x.f12).1
  obtain ⟨mRSR, hRSR, eRSR⟩ := nam_opt nRspnRsn (wordsF x.f12).2.1
  obtain ⟨mAUT, hAUT, eAUT⟩ := nam_opt nAuthstnCd x.f10
  obtain ⟨mRSN, hRSN, eRSN⟩ := nam_opt nRsn x.f13
  obtain ⟨mORG, hORG, eORG⟩ := nam_org x
  obtain ⟨mICC, hICC, eICC⟩ := nam_opt nICCData hx
  obtain ⟨mNOT, hNOT, eNOT⟩ := nam_opt nNote x.f17
  obtain ⟨mKEY, hKEY, eKEY⟩ := nam_opt nRsdlKey x.f16
  unfold itemsOf itemsA
  simp only [List.map_append, ePAN, eCUR, eRRN, eMER, eTER, eENT, eRSP, eRSR, eAUT, eRSN, eORG, eICC, eNOT, eKEY, nam_ext, List.append_assoc]
  rw [← List.append_nil (List.replicate mKEY nRsdlKey)]
  exact runs_cons (c := ⟨nPAN, 0, 1, 1, 12, 19⟩) (m := mPAN) (by show (0 : Int) ≤ _; omega) (by show _ ≤ (1 : Int); omega) (by decide +kernel) <| runs_cons (c := ⟨nTtlAmt, 0, 1, 5, 4, 13⟩) (m := mCUR) (by show (0 : Int) ≤ _; omega) (by show _ ≤ (1 : Int); omega) (by decide +kernel) <| runs_cons (c := ⟨nCcy, 0, 1, 1, 3, 3⟩) (m := mCUR) (by show (0 : Int) ≤ _; omega) (by show _ ≤ (1 : Int); omega) (by decide +kernel) <| runs_cons (c := ⟨nRRN, 0, 1, 6, 12, 12⟩) (m := mRRN) (by show (0 : Int) ≤ _; omega) (by show _ ≤ (1 : Int); omega) (by decide +kernel) <| runs_cons (c := ⟨nMrchntId, 0, 1, 2, 1, 35⟩) (m := mMER) (by show (0 : Int) ≤ _; omega) (by show _ ≤ (1 : Int); omega) (by decide +kernel) <| runs_cons (c := ⟨nTermnlId, 0, 1, 2, 1, 35⟩) (m := mTER) (by show (0 : Int) ≤ _; omega) (by show _ ≤ (1 : Int); omega) (by decide +kernel) <| runs_cons (c := ⟨nNtryMd, 0, 1, 1, 1, 3⟩) (m := mENT) (by show (0 : Int) ≤ _; omega) (by show _ ≤ (1 : Int); omega) (by decide +kernel) <| runs_cons (c := ⟨nRspn, 0, 1, 3, 4, 4⟩) (m := mRSP) (by show (0 : Int) ≤ _; omega) (by show _ ≤ (1 : Int); omega) (by decide +kernel) <| runs_cons (c := ⟨nRspnRsn, 0, 1, 3, 4, 4⟩) (m := mRSR) (by show (0 : Int) ≤ _; omega) (by show _ ≤ (1 : Int); omega) (by decide +kernel) <| runs_cons (c := ⟨nAuthstnCd, 0, 1, 6, 6, 6⟩) (m := mAUT) (by show (0 : Int) ≤ _; omega) (by show _ ≤ (1 : Int); omega) (by decide +kernel) <| runs_cons (c := ⟨nRsn, 0, 1, 1, 4, 4⟩) (m := mRSN) (by show (0 : Int) ≤ _; omega) (by show _ ≤ (1 : Int); omega) (by decide +kernel) <| runs_cons (c := ⟨nOrgnlTx, 0, 1, 8, 0, 0⟩) (m := mORG) (by show (0 : Int) ≤ _; omega) (by show _ ≤ (1 : Int); omega) (by decide +kernel) <| runs_cons (c := ⟨nICCData, 0, 1, 7, 2, 510⟩) (m := mICC) (by show (0 : Int) ≤ _; omega) (by show _ ≤ (1 : Int); omega) (by decide +kernel) <| runs_cons (c := ⟨nNote, 0, 1, 2, 1, 140⟩) (m := mNOT) (by show (0 : Int) ≤ _; omega) (by show _ ≤ (1 : Int); omega) (by decide +kernel) <| runs_cons (c := ⟨nSplmtryData, 0, 8, 8, 0, 0⟩) (m := x.f18.length) (by show (0 : Int) ≤ _; omega) (by show _ ≤ (8 : Int); omega) (by decide +kernel) <| runs_cons (c := ⟨nRsdlKey, 0, 1, 7, 8, 8⟩) (m := mKEY) (by show (0 : Int) ≤ _; omega) (by show _ ≤ (1 : Int); omega) (by decide +kernel) <| runs_nil
theorem opt_all {P : Item → Prop} {n t : ByteArray} (h : t.toList ≠ [] → P (.leaf n t)) : ∀ it ∈ optI n t, P it := by
  unfold optI
  split
  · intro it h1; cases h1
  · rename_i q; intro it h1; rw [List.mem_singleton] at h1; rw [h1]; exact h q
theorem items_all {P : Item → Prop} (x : S29) (hx : ByteArray) (hPAN : x.f4.toList ≠ [] → P (.leaf nPAN x.f4)) (hRRN : x.f7.toList ≠ [] → P (.leaf nRRN x.f7)) (hMrchntId : x.f8.toList ≠ [] → P (.leaf nMrchntId x.f8)) (hTermnlId : x.f9.toList ≠ [] → P (.leaf nTermnlId x.f9)) (hRspn : (wordsF x.f12).1.toList ≠ [] → P (.leaf nRspn (wordsF x.f12).1)) (hRspnRsn : (wordsF x.f12).2.1.toList ≠ [] → P (.leaf nRspnRsn (wordsF x.f12).2.1)) (hAuthstnCd : x.f10.toList ≠ [] → P (.leaf nAuthstnCd x.f10)) (hRsn : x.f13.toList ≠ [] → P (.leaf nRsn x.f13)) (hICCData : hx.toList ≠ [] → P (.leaf nICCData hx)) (hNote : x.f17.toList ≠ [] → P (.leaf nNote x.f17)) (hRsdlKey : x.f16.toList ≠ [] → P (.leaf nRsdlKey x.f16)) (hAmt : x.f5.toList ≠ [] → P (.leaf nTtlAmt (amtS x.f6))) (hCcy : x.f5.toList ≠ [] → P (.leaf nCcy x.f5)) (hEnt : x.f11 ≠ 0 → P (.leaf nNtryMd (decS x.f11))) (hOrg : x.f14.f1.toList ≠ [] → P (.sub nOrgnlTx nXchgId (decS x.f14.f0) nCreDtTm (textF x.f14.f1))) (hExt : ∀ y ∈ x.f18, P (.sub nSplmtryData nNm y.f0 nVal y.f1)) : ∀ it ∈ itemsOf x hx, P it := by
  have hc : ∀ it ∈ curI x, P it := by
    unfold curI; split
    · intro it h; cases h
    · rename_i q; intro it h
      rcases List.mem_cons.1 h with h | h
      · rw [h]; exact hAmt q
      · rw [List.mem_singleton] at h; rw [h]; exact hCcy q
  have he : ∀ it ∈ entI x, P it := by
    unfold entI; split
    · intro it h; cases h
    · rename_i q; intro it h; rw [List.mem_singleton] at h; rw [h]; exact hEnt q
  have ho : ∀ it ∈ orgI x, P it := by
    unfold orgI; split
    · intro it h; cases h
    · rename_i q; intro it h; rw [List.mem_singleton] at h; rw [h]; exact hOrg q
  have hx2 : ∀ it ∈ extI x, P it := by
    unfold extI; intro it h
    obtain ⟨y, hy, rfl⟩ := List.mem_map.1 h
    exact hExt y hy
  have app : ∀ {a b : List Item}, (∀ it ∈ a, P it) → (∀ it ∈ b, P it) → ∀ it ∈ a ++ b, P it := fun ha hb it h => by
    rcases List.mem_append.1 h with h | h
    · exact ha it h
    · exact hb it h
  unfold itemsOf itemsA
  exact app (app (opt_all hPAN) (app hc (app (opt_all hRRN) (app (opt_all hMrchntId) (app (opt_all hTermnlId) (app he (app (opt_all hRspn) (app (opt_all hRspnRsn) (app (opt_all hAuthstnCd) (opt_all hRsn)))))))))) (app ho (app (opt_all hICCData) (app (opt_all hNote) (app hx2 (opt_all hRsdlKey)))))
/-- How long the parts are. -/
structure XSize (x : S29) (hx : ByteArray) : Prop where
  base : BaseOK x
  zPAN : x.f4.size ≤ 1000000
  zRRN : x.f7.size ≤ 1000000
  zMrchntId : x.f8.size ≤ 1000000
  zTermnlId : x.f9.size ≤ 1000000
  zRspn : (wordsF x.f12).1.size ≤ 1000000
  zRspnRsn : (wordsF x.f12).2.1.size ≤ 1000000
  zAuthstnCd : x.f10.size ≤ 1000000
  zRsn : x.f13.size ≤ 1000000
  zICCData : hx.size ≤ 1000000
  zNote : x.f17.size ≤ 1000000
  zRsdlKey : x.f16.size ≤ 1000000
  zCcy : x.f5.size ≤ 1000000
  amt : 0 ≤ x.f6 ∧ x.f6 ≤ 999999999999
  ent : 0 ≤ x.f11 ∧ x.f11 ≤ 999
  ost : 0 ≤ x.f14.f0 ∧ x.f14.f0 ≤ 999999
  zT : x.f14.f1.size ≤ 1000000
  ext : x.f18.length ≤ 4
  zE : ∀ y ∈ x.f18, y.f0.size ≤ 1000000 ∧ y.f1.size ≤ 1000000
def ItemOK : Item → Prop
  | .leaf nm tx => (nameF nm = true ∧ nm.size ≤ 1000) ∧ tx.size ≤ 1000000 ∧ (modelF nm).2 = false
  | .sub nm n1 t1 n2 t2 => (nameF nm = true ∧ nm.size ≤ 1000) ∧ (nameF n1 = true ∧ n1.size ≤ 1000) ∧ (nameF n2 = true ∧ n2.size ≤ 1000) ∧ t1.size ≤ 1000000 ∧ t2.size ≤ 1000000 ∧ runs (modelF nm).1 [n1, n2] ∧ (modelF nm).2 = true ∧ (modelF n1).2 = false ∧ (modelF n2).2 = false
theorem text_size (s : ByteArray) : (textF s).size ≤ 1000000 := by
  unfold textF
  split
  · unfold stamp
    simp only [ByteArray.size_append, ByteArray.size_extract]
    show _ + 1 + _ + 1 + _ + 1 + _ + 1 + _ + 1 + _ ≤ _
    omega
  · decide
theorem dec_size {v : Int} (h0 : 0 ≤ v) (h1 : v < 18446744073709551616) : (decS v).size ≤ 1000000 := by have := (dec_all h0 h1).2.2; omega
theorem len_opt (n t : ByteArray) : lenI (optI n t) ≤ 1 := by unfold optI; split <;> simp [lenI, Item.len]
theorem len_app (a b : List Item) : lenI (a ++ b) = lenI a + lenI b := by unfold lenI; rw [List.map_append, List.sum_append]
theorem len_ext (l : List S48) : lenI (l.map fun y => Item.sub nSplmtryData nNm y.f0 nVal y.f1) = 3 * l.length := by
  induction l with
  | nil => rfl
  | cons y l ih => rw [List.map_cons]; show 3 + lenI _ = _; rw [ih, List.length_cons]; omega
theorem items_len (x : S29) (hx : ByteArray) (h4 : x.f18.length ≤ 4) : lenI (itemsOf x hx) ≤ 31 := by
  have hc : lenI (curI x) ≤ 2 := by unfold curI; split <;> simp [lenI, Item.len]
  have he : lenI (entI x) ≤ 1 := by unfold entI; split <;> simp [lenI, Item.len]
  have ho : lenI (orgI x) ≤ 3 := by unfold orgI; split <;> simp [lenI, Item.len]
  have hx2 : lenI (extI x) = 3 * x.f18.length := len_ext _
  have h0 := len_opt nPAN x.f4
  have h1 := len_opt nRRN x.f7
  have h2 := len_opt nMrchntId x.f8
  have h3 := len_opt nTermnlId x.f9
  have h4 := len_opt nRspn (wordsF x.f12).1
  have h5 := len_opt nRspnRsn (wordsF x.f12).2.1
  have h6 := len_opt nAuthstnCd x.f10
  have h7 := len_opt nRsn x.f13
  have h8 := len_opt nICCData hx
  have h9 := len_opt nNote x.f17
  have h10 := len_opt nRsdlKey x.f16
  unfold itemsOf itemsA
  simp only [len_app]
  omega
theorem items_ok (x : S29) (hx : ByteArray) (h : XSize x hx) : ItemsOK (itemsOf x hx) := by
  have H : ∀ it ∈ itemsOf x hx, ItemOK it := items_all x hx (fun _ => ⟨leaf_nPAN.1, h.zPAN, leaf_nPAN.2⟩) (fun _ => ⟨leaf_nRRN.1, h.zRRN, leaf_nRRN.2⟩) (fun _ => ⟨leaf_nMrchntId.1, h.zMrchntId, leaf_nMrchntId.2⟩) (fun _ => ⟨leaf_nTermnlId.1, h.zTermnlId, leaf_nTermnlId.2⟩) (fun _ => ⟨leaf_nRspn.1, h.zRspn, leaf_nRspn.2⟩) (fun _ => ⟨leaf_nRspnRsn.1, h.zRspnRsn, leaf_nRspnRsn.2⟩) (fun _ => ⟨leaf_nAuthstnCd.1, h.zAuthstnCd, leaf_nAuthstnCd.2⟩) (fun _ => ⟨leaf_nRsn.1, h.zRsn, leaf_nRsn.2⟩) (fun _ => ⟨leaf_nICCData.1, h.zICCData, leaf_nICCData.2⟩) (fun _ => ⟨leaf_nNote.1, h.zNote, leaf_nNote.2⟩) (fun _ => ⟨leaf_nRsdlKey.1, h.zRsdlKey, leaf_nRsdlKey.2⟩) (fun _ => ⟨leaf_nTtlAmt.1, by have := (amt_ok h.amt.1 h.amt.2).2.2; omega, leaf_nTtlAmt.2⟩) (fun _ => ⟨leaf_nCcy.1, h.zCcy, leaf_nCcy.2⟩) (fun _ => ⟨leaf_nNtryMd.1, dec_size h.ent.1 (by have := h.ent.2; omega), leaf_nNtryMd.2⟩) (fun _ => ⟨sub_org.1, sub_org.2.1, sub_org.2.2.1, dec_size h.ost.1 (by have := h.ost.2; omega), text_size _, by rw [model_org]; exact runs_org, sub_org.2.2.2⟩) (fun y hy => ⟨sub_spl.1, sub_spl.2.1, sub_spl.2.2.1, (h.zE y hy).1, (h.zE y hy).2, by rw [model_spl]; exact runs_spl, sub_spl.2.2.2⟩)
  exact ⟨fun nm tx h1 => H _ h1, fun nm n1 t1 n2 t2 h1 => H _ h1, runs_body x hx h.ext, items_len x hx h.ext⟩
/-- What XML may say of a message. -/
structure XGood (x : S29) (hx : ByteArray) : Prop where
  base : BaseGood x
  pan : x.f4.toList ≠ [] → rightF x.f4 12 19 = true
  cur : x.f5.toList ≠ [] → rightF x.f5 3 3 = true
  rrn : x.f7.toList ≠ [] → alnF x.f7 12 12 = true
  mer : x.f8.toList ≠ [] → PlainA x.f8 1 35
  ter : x.f9.toList ≠ [] → PlainA x.f9 1 35
  app : x.f10.toList ≠ [] → alnF x.f10 6 6 = true
  rea : x.f13.toList ≠ [] → rightF x.f13 4 4 = true
  org : x.f14.f1.toList ≠ [] → timeF x.f14.f1 = true
  icc : hexE hx = 0 ∧ (hx.toList ≠ [] → 2 ≤ hx.size) ∧ hx.size ≤ 510
  note : x.f17.toList ≠ [] → PlainA x.f17 1 140
  ext : ∀ y ∈ x.f18, PlainA y.f0 1 20 ∧ PlainA y.f1 1 100
  key : x.f16.toList ≠ [] → hexE x.f16 = 0 ∧ x.f16.size = 8
theorem aln_ink {s : ByteArray} {a b : Int} (h : alnF s a b = true) : (bs s).all ink = true := by
  unfold alnF at h
  rw [Bool.and_eq_true, Bool.and_eq_true] at h
  refine all_mono (fun c hc => ?_) h.1.1
  unfold aln at hc; unfold ink
  simp only [Bool.or_eq_true, Bool.and_eq_true, decide_eq_true_eq] at hc ⊢
  omega
theorem hex_ink {s : ByteArray} (h : hexE s = 0) : (bs s).all ink = true := by
  have hf : hexF s = true := by
    unfold hexE at h
    by_cases q : hexF s = true
    · exact q
    · rw [if_neg q] at h; cases h
  unfold hexF at hf
  rw [Bool.and_eq_true] at hf
  refine all_mono (fun c hc => ?_) hf.2
  unfold hexc signF at hc; unfold ink
  rw [decide_eq_true_eq] at hc
  rw [Bool.and_eq_true, decide_eq_true_eq, decide_eq_true_eq]
  split at hc
  · omega
  · split at hc
    · omega
    · omega
theorem amt_ink {v : Int} (h0 : 0 ≤ v) (h1 : v ≤ 999999999999) : (bs (amtS v)).all ink = true := by
  obtain ⟨_, d1, _⟩ := dec_all (v := v / 100) (by omega) (by omega)
  obtain ⟨_, d2, z2⟩ := dec_is (v := v % 100) (by omega) 1 (by decide) (by omega) (by omega)
  have d3 := pad_dec (Int.toNat 2 - (decS (v % 100)).size) d2
  have b46 : (bs ⟨#[46]⟩).all ink = true := rfl
  unfold amtS
  rw [if_pos h1]
  unfold digS
  rw [if_pos (by omega)]
  rw [bs_append, bs_append, List.all_append, List.all_append, b46, all_mono (fun _ => dig_ink) d1.dg, all_mono (fun _ => dig_ink) d3.dg]
  rfl
theorem dec_right {v : Int} (h0 : 0 ≤ v) (n : Nat) (hn : n < 19) (h1 : v < 10 ^ (n + 1)) (h2 : v < 18446744073709551616) : rightF (decS v) 1 ((n + 1 : Nat) : Int) = true := by
  obtain ⟨_, d, z⟩ := dec_is h0 n (by omega) h1 h2
  exact right_iff.2 ⟨d.dg, by have := d.lo; omega, by omega⟩
theorem items_good (x : S29) (hx : ByteArray) (hz : XSize x hx) (h : XGood x hx) : ∀ it ∈ itemsOf x hx, ItemGood it := by
  have hw := (words_is x.f12).2
  have hwc : (wordsF x.f12).1.toList ≠ [] ∨ (wordsF x.f12).2.1.toList ≠ [] → capF (wordsF x.f12).1 4 = true ∧ capF (wordsF x.f12).2.1 4 = true := fun q => by
    cases hc : (wordsF x.f12).2.2 with
    | true => exact ⟨(hw.yes hc).1, (hw.yes hc).2.1⟩
    | false =>
      obtain ⟨a, b⟩ := hw.no hc
      rw [a, b] at q
      have e : (⟨#[]⟩ : ByteArray).toList = [] := by rw [ByteArray.toList_eq]
      rcases q with q | q <;> exact absurd e q
  have ho := dec_right hz.ost.1 5 (by decide) (by have := hz.ost.2; omega) (by have := hz.ost.2; omega)
  have he := dec_right hz.ent.1 2 (by decide) (by have := hz.ent.2; omega) (by have := hz.ent.2; omega)
  refine items_all x hx ?_ ?_ ?_ ?_ ?_ ?_ ?_ ?_ ?_ ?_ ?_ ?_ ?_ ?_ ?_ ?_
  · intro q; exact ⟨right_ink (h.pan q), by rw [child_nPAN]; exact sim1 (h.pan q)⟩
  · intro q; exact ⟨aln_ink (h.rrn q), by rw [child_nRRN]; exact sim6 (h.rrn q)⟩
  · intro q; exact ⟨(h.mer q).1, by rw [child_nMrchntId]; exact sim2 (h.mer q)⟩
  · intro q; exact ⟨(h.ter q).1, by rw [child_nTermnlId]; exact sim2 (h.ter q)⟩
  · intro q; exact ⟨cap_ink (hwc (.inl q)).1, by rw [child_nRspn]; exact sim3 (hwc (.inl q)).1⟩
  · intro q; exact ⟨cap_ink (hwc (.inr q)).2, by rw [child_nRspnRsn]; exact sim3 (hwc (.inr q)).2⟩
  · intro q; exact ⟨aln_ink (h.app q), by rw [child_nAuthstnCd]; exact sim6 (h.app q)⟩
  · intro q; exact ⟨right_ink (h.rea q), by rw [child_nRsn]; exact sim1 (h.rea q)⟩
  · intro q; exact ⟨hex_ink h.icc.1, by rw [child_nICCData]; exact sim7 h.icc.1 (show (2 : Int) ≤ _ by have := h.icc.2.1 q; omega) (show _ ≤ (510 : Int) by have := h.icc.2.2; omega)⟩
  · intro q; exact ⟨(h.note q).1, by rw [child_nNote]; exact sim2 (h.note q)⟩
  · intro q; exact ⟨hex_ink (h.key q).1, by rw [child_nRsdlKey]; exact sim7 (h.key q).1 (by rw [(h.key q).2]; decide) (by rw [(h.key q).2]; decide)⟩
  · intro q; exact ⟨amt_ink hz.amt.1 hz.amt.2, by rw [child_nTtlAmt]; exact sim5 (amt_ok hz.amt.1 hz.amt.2).1⟩
  · intro q; exact ⟨right_ink (h.cur q), by rw [child_nCcy]; exact sim1 (h.cur q)⟩
  · intro q; exact ⟨right_ink he, by rw [child_nNtryMd]; exact sim1 he⟩
  · intro q
    refine ⟨right_ink ho, stamp_ink (h.org q), ?_, ?_⟩
    · rw [model_org, child_org1]; exact sim1 ho
    · rw [model_org, child_org2]
      refine sim4 ?_
      unfold textF
      rw [if_pos (h.org q)]
      exact ofE_ok (h.org q)
  · intro y hy
    have := h.ext y hy
    exact ⟨this.1.1, this.2.1, by rw [model_spl, child_spl1]; exact sim2 this.1, by rw [model_spl, child_spl2]; exact sim2 this.2⟩
set_option maxHeartbeats 8000000 in
set_option maxRecDepth 100000 in
theorem numbers_e (x : S29) (A16 : Option Addr) (c16 : Nat) (A19 : Option Addr) (c19 : Nat) (A20 : Option Addr) (c20 : Nat) (w : World) (hx : MIn x) (ha : x.f12.toList = [] ∨ (wordsF x.f12).2.2 = true) (l16 : x.f15.length ≤ c16) (g16 : k46.C w A16 x.f15.length x.f15) :
    Calls Tryz.prog 53 #[.agg (rowM x (.slice A16 x.f15.length c16) (.slice A19 x.f18.length c19) (.slice A20 x.f19.length c20))] w fun e w' => e = .returned (.bool true) ∧ Below w.heap.size w w' := by
  have HX := Aside0.mk hx
  have HG := Aside0.mk (And.intro l16 g16)
  have HA := Aside0.mk ha
  clear hx l16 g16 ha
  go_enter Tryz.func53, Tryz.ntmps53
  go_upto_region 1 with fail
  obtain ⟨mc, hmc⟩ : ∃ m, m = rowM x (.slice A16 x.f15.length c16) (.slice A19 x.f18.length c19) (.slice A20 x.f19.length c20) := ⟨_, rfl⟩
  rw [← hmc]
  have HMC := Aside0.mk hmc
  clear hmc
  obtain ⟨p, hp⟩ : ∃ p, p = w.heap.size := ⟨_, rfl⟩
  have J0 : (w.alloc (.cells mc 29)).heap[w.heap.size]? = some (.cells mc 29 (0, 0)) ∧ Below w.heap.size w (w.alloc (.cells mc 29)) := ⟨blk_new w _, below_alloc (Below.refl _ w) _⟩
  rw [← hp] at J0 ⊢
  revert J0
  generalize w.alloc (.cells mc 29) = w0
  intro J0
  have BW0 := Aside0.mk (show Below w.heap.size w w0 by rw [← hp]; exact J0.2)
  have MB : Aside0 (w0.heap[p]? = some (.cells (rowM x (.slice A16 x.f15.length c16) (.slice A19 x.f18.length c19) (.slice A20 x.f19.length c20)) 29 (0, 0))) := ⟨by rw [← HMC.out]; exact J0.1⟩
  clear J0 hp
  have q16 := (blk_cell MB.out 16).trans (show _ = some (Value.slice A16 x.f15.length c16) from rfl)
  go_wp2_with fail
  refine (writeTags_e A16 c16 x.f15 _ (Kd.C_below HG.out.2 BW0.out) HG.out.1).mono ?_
  rintro e wt ⟨Ab, b, cb, r, rfl, hr0, _, _, _, _, hb⟩
  obtain rfl := hr0.2 HX.out.tags
  have BT := Aside0.mk (below_step BW0.out hb)
  have MT := Aside0.mk (blk_below MB.out hb)
  clear hr0 hb q16 MB
  have q1 := (blk_cell MT.out 1).trans (show _ = some (Value.int .i64 x.f1) from rfl)
  have q11 := (blk_cell MT.out 11).trans (show _ = some (Value.int .i64 x.f11) from rfl)
  have q14 := (blk_cell MT.out 14).trans (show _ = some (Value.int .i64 x.f14.f0) from rfl)
  have q12 := (blk_cell MT.out 12).trans (show _ = some (Value.string x.f12) from rfl)
  have a1 := HX.out.stan.1
  have a2 := HX.out.stan.2
  have a3 := HX.out.ent.1
  have a4 := HX.out.ent.2
  have a5 := HX.out.ost.1
  have a6 := HX.out.ost.2
  rcases HA.out with h | h
  · have h1 : (x.f12.toList == ([] : List UInt8)) = true := beq_iff_eq.mpr h
    have h2 : x.f12.toList.isEmpty = true := by rw [h]; rfl
    replace h := Aside0.mk h
    go_wp2_with fail
    go_ret
    exact ⟨by first | rfl | (rw [h2]; rfl), BT.out⟩
  · by_cases hh : x.f12.toList = []
    · have h1 : (x.f12.toList == ([] : List UInt8)) = true := beq_iff_eq.mpr hh
      have h2 : x.f12.toList.isEmpty = true := by rw [hh]; rfl
      replace hh := Aside0.mk hh
      replace h := Aside0.mk h
      go_wp2_with fail
      go_ret
      exact ⟨by first | rfl | (rw [h2]; rfl), BT.out⟩
    · have h1 : (x.f12.toList == ([] : List UInt8)) = false := beq_eq_false_iff_ne.mpr hh
      replace hh := Aside0.mk hh
      have HH := Aside0.mk h
      clear h
      go_wp2_with fail
      refine (known_e x.f12 _).mono ?_
      rintro e wk ⟨rfl, hb⟩
      rw [HH.out]
      have BK := Aside0.mk (below_step BT.out hb)
      clear hb
      go_wp2_with fail
      go_ret
      exact ⟨by first | rfl | simp, BK.out⟩
end Go.Proofs.YthapknnppabdaaaGreat.MQ
