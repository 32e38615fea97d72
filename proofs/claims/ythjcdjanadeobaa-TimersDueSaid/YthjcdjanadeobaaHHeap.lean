/- Plain: a heap in a list, as container/heap keeps it: putting in, taking out, setting right. No program in sight. -/
set_option linter.unusedVariables false
namespace Go.Proofs.Ythjcdjanadeobaa.Heap

/-- An id, and when it is due. -/
abbrev Item := Int × Int
def less (a b : Item) : Bool := decide (a.2 < b.2) || (decide (a.2 = b.2) && decide (a.1 < b.1))
theorem less_iff (a b : Item) : less a b = true ↔ a.2 < b.2 ∨ (a.2 = b.2 ∧ a.1 < b.1) := by simp [less]
theorem nless_iff (a b : Item) : ¬ less a b = true ↔ b.2 < a.2 ∨ (a.2 = b.2 ∧ b.1 ≤ a.1) := by rw [less_iff]; omega
theorem asymm {a b : Item} (h : less a b = true) : ¬ less b a = true := by rw [less_iff] at h; rw [nless_iff]; omega
theorem irrefl (a : Item) : ¬ less a a = true := by rw [nless_iff]; omega
theorem nless_trans {a b c : Item} (h : ¬ less a b = true) (k : ¬ less b c = true) : ¬ less a c = true := by rw [nless_iff] at h k ⊢; omega
theorem nless_of_less {a b c : Item} (h : ¬ less a b = true) (k : less c b = true) : ¬ less a c = true := by rw [nless_iff] at h ⊢; rw [less_iff] at k; omega
theorem eq_of_nless {a b : Item} (h : ¬ less a b = true) (k : ¬ less b a = true) : a = b := by
  rw [nless_iff] at h k
  apply Prod.ext <;> omega

def at_ (l : List Item) (i : Nat) : Item := l.getD i (0, 0)
theorem at_get (l : List Item) (i : Nat) (h : i < l.length) : at_ l i = l[i] := by simp [at_, List.getD_eq_getElem?_getD, h]
theorem at_some (l : List Item) (i : Nat) (h : i < l.length) : l[i]? = some (at_ l i) := by rw [at_get l i h, List.getElem?_eq_getElem h]
theorem at_set (l : List Item) (i k : Nat) (x : Item) (h : i < l.length) : at_ (l.set i x) k = if k = i then x else at_ l k := by
  unfold at_
  rw [List.getD_eq_getElem?_getD, List.getElem?_set]
  by_cases e : i = k
  · subst e; simp [h]
  · rw [if_neg e, if_neg (fun h' => e h'.symm), List.getD_eq_getElem?_getD]
theorem at_append (l m : List Item) (k : Nat) (h : k < l.length) : at_ (l ++ m) k = at_ l k := by
  unfold at_
  rw [List.getD_eq_getElem?_getD, List.getElem?_append_left h, List.getD_eq_getElem?_getD]
theorem at_last (l : List Item) (x : Item) : at_ (l ++ [x]) l.length = x := by simp [at_, List.getD_eq_getElem?_getD]
def swap (l : List Item) (i j : Nat) : List Item := (l.set i (at_ l j)).set j (at_ l i)
theorem swap_len (l : List Item) (i j : Nat) : (swap l i j).length = l.length := by simp [swap]
theorem at_swap (l : List Item) (i j k : Nat) (hi : i < l.length) (hj : j < l.length) : at_ (swap l i j) k = if k = j then at_ l i else if k = i then at_ l j else at_ l k := by
  unfold swap
  rw [at_set _ _ _ _ (by simpa using hj), at_set _ _ _ _ hi]
theorem swap_perm (l : List Item) (i j : Nat) (hi : i < l.length) (hj : j < l.length) : (swap l i j).Perm l := by
  unfold swap
  rw [at_get l i hi, at_get l j hj]
  exact List.set_set_perm hi hj

/-! ### up -/
def edge (l : List Item) (k : Nat) : Prop := ¬ less (at_ l k) (at_ l ((k - 1) / 2)) = true
def IsHeap (l : List Item) (n : Nat) : Prop := ∀ k, 0 < k → k < n → edge l k
def gp (l : List Item) (n i : Nat) : Prop := ∀ c, 0 < c → c < n → (c - 1) / 2 = i → 0 < i → ¬ less (at_ l c) (at_ l ((i - 1) / 2)) = true
def UpInv (l : List Item) (n j : Nat) : Prop := (∀ k, 0 < k → k < n → k ≠ j → edge l k) ∧ gp l n j
def up : Nat → List Item → Nat → List Item
  | 0, l, _ => l
  | f + 1, l, j => if j = 0 then l else if less (at_ l j) (at_ l ((j - 1) / 2)) = true then up f (swap l ((j - 1) / 2) j) ((j - 1) / 2) else l
theorem up_step (l : List Item) (n j : Nat) (hn : n ≤ l.length) (hj : j < n) (h0 : j ≠ 0) (hl : less (at_ l j) (at_ l ((j - 1) / 2)) = true) (h : UpInv l n j) : UpInv (swap l ((j - 1) / 2) j) n ((j - 1) / 2) := by
  obtain ⟨h1, h2⟩ := h
  generalize hp : (j - 1) / 2 = p at hl ⊢
  have hpj : p < j := by omega
  have A : ∀ k, at_ (swap l p j) k = if k = j then at_ l p else if k = p then at_ l j else at_ l k := fun k => at_swap l p j k (by omega) (by omega)
  have Aj : at_ (swap l p j) j = at_ l p := by rw [A, if_pos rfl]
  have Ap : at_ (swap l p j) p = at_ l j := by rw [A, if_neg (by omega), if_pos rfl]
  have Ao : ∀ k, k ≠ j → k ≠ p → at_ (swap l p j) k = at_ l k := fun k a b => by rw [A, if_neg a, if_neg b]
  refine ⟨fun k hk hkn hkp => ?_, fun c hc hcn hcp h0p => ?_⟩
  · unfold edge
    by_cases e : k = j
    · subst e
      rw [Aj, hp, Ap]
      exact asymm hl
    · rw [Ao k e hkp]
      by_cases e1 : (k - 1) / 2 = j
      · rw [e1, Aj, ← hp]
        exact h2 k hk hkn e1 (by omega)
      · by_cases e2 : (k - 1) / 2 = p
        · rw [e2, Ap]
          have := h1 k hk hkn e
          unfold edge at this
          rw [e2] at this
          exact nless_of_less this hl
        · rw [Ao _ e1 e2]
          exact h1 k hk hkn e
  · rw [Ao ((p - 1) / 2) (by omega) (by omega)]
    have hpe := h1 p (by omega) (by omega) (by omega)
    unfold edge at hpe
    by_cases e : c = j
    · subst e
      rw [Aj]; exact hpe
    · rw [Ao c e (by omega)]
      have := h1 c hc hcn e
      unfold edge at this
      rw [hcp] at this
      exact nless_trans this hpe
theorem up_spec (n : Nat) : ∀ (f : Nat) (l : List Item) (j : Nat), n ≤ l.length → j < n → j ≤ f → UpInv l n j →
    IsHeap (up f l j) n ∧ (up f l j).Perm l ∧ (∀ k, n ≤ k → at_ (up f l j) k = at_ l k)
  | 0, l, j, hn, hj, hf, h => by
    obtain rfl : j = 0 := by omega
    exact ⟨fun k hk hkn => h.1 k hk hkn (by omega), List.Perm.refl _, fun _ _ => rfl⟩
  | f + 1, l, j, hn, hj, hf, h => by
    unfold up
    by_cases h0 : j = 0
    · rw [if_pos h0]
      exact ⟨fun k hk hkn => h.1 k hk hkn (by omega), List.Perm.refl _, fun _ _ => rfl⟩
    · rw [if_neg h0]
      by_cases hl : less (at_ l j) (at_ l ((j - 1) / 2)) = true
      · rw [if_pos hl]
        have hs := up_step l n j hn hj h0 hl h
        obtain ⟨a, b, c⟩ := up_spec n f (swap l ((j - 1) / 2) j) ((j - 1) / 2) (by rw [swap_len]; exact hn) (by omega) (by omega) hs
        refine ⟨a, b.trans (swap_perm _ _ _ (by omega) (by omega)), fun k hk => ?_⟩
        rw [c k hk, at_swap _ _ _ _ (by omega) (by omega), if_neg (by omega), if_neg (by omega)]
      · rw [if_neg hl]
        refine ⟨fun k hk hkn => ?_, List.Perm.refl _, fun _ _ => rfl⟩
        by_cases e : k = j
        · subst e; exact hl
        · exact h.1 k hk hkn e

/-! ### down -/
def child (l : List Item) (i n : Nat) : Nat := if 2 * i + 2 < n ∧ less (at_ l (2 * i + 2)) (at_ l (2 * i + 1)) = true then 2 * i + 2 else 2 * i + 1
def down : Nat → List Item → Nat → Nat → List Item × Nat
  | 0, l, i, _ => (l, i)
  | f + 1, l, i, n => if 2 * i + 1 ≥ n then (l, i) else if less (at_ l (child l i n)) (at_ l i) = true then down f (swap l i (child l i n)) (child l i n) n else (l, i)
def FixInv (l : List Item) (n i : Nat) : Prop := (∀ k, 0 < k → k < n → k ≠ i → (k - 1) / 2 ≠ i → edge l k) ∧ gp l n i
def DnInv (l : List Item) (n i : Nat) : Prop := (∀ k, 0 < k → k < n → (k - 1) / 2 ≠ i → edge l k) ∧ gp l n i
theorem DnInv.fix {l : List Item} {n i : Nat} (h : DnInv l n i) : FixInv l n i := ⟨fun k a b _ d => h.1 k a b d, h.2⟩
theorem child_is (l : List Item) (i n : Nat) (h : 2 * i + 1 < n) : child l i n < n ∧ i < child l i n ∧ (child l i n - 1) / 2 = i ∧ (∀ c, 0 < c → c < n → (c - 1) / 2 = i → ¬ less (at_ l c) (at_ l (child l i n)) = true) := by
  unfold child
  by_cases hc : 2 * i + 2 < n ∧ less (at_ l (2 * i + 2)) (at_ l (2 * i + 1)) = true
  · rw [if_pos hc]
    refine ⟨hc.1, by omega, by omega, fun c h0 hcn hci => ?_⟩
    have : c = 2 * i + 1 ∨ c = 2 * i + 2 := by omega
    rcases this with rfl | rfl
    · exact asymm hc.2
    · exact irrefl _
  · rw [if_neg hc]
    refine ⟨h, by omega, by omega, fun c h0 hcn hci => ?_⟩
    have : c = 2 * i + 1 ∨ c = 2 * i + 2 := by omega
    rcases this with rfl | rfl
    · exact irrefl _
    · exact fun h' => hc ⟨hcn, h'⟩
theorem down_step (l : List Item) (n i j : Nat) (hn : n ≤ l.length) (hj : j < n) (hij : i < j) (hp : (j - 1) / 2 = i) (hb : ∀ c, 0 < c → c < n → (c - 1) / 2 = i → ¬ less (at_ l c) (at_ l j) = true) (hl : less (at_ l j) (at_ l i) = true) (h : FixInv l n i) : DnInv (swap l i j) n j := by
  obtain ⟨h1, h2⟩ := h
  have A : ∀ k, at_ (swap l i j) k = if k = j then at_ l i else if k = i then at_ l j else at_ l k := fun k => at_swap l i j k (by omega) (by omega)
  have Aj : at_ (swap l i j) j = at_ l i := by rw [A, if_pos rfl]
  have Ai : at_ (swap l i j) i = at_ l j := by rw [A, if_neg (by omega), if_pos rfl]
  have Ao : ∀ k, k ≠ j → k ≠ i → at_ (swap l i j) k = at_ l k := fun k a b => by rw [A, if_neg a, if_neg b]
  refine ⟨fun k hk hkn hkj => ?_, fun c hc hcn hcj h0j => ?_⟩
  · unfold edge
    by_cases e : k = j
    · subst e
      rw [Aj, hp, Ai]
      exact asymm hl
    · by_cases e1 : k = i
      · subst e1
        rw [Ai, Ao ((k - 1) / 2) (by omega) (by omega)]
        exact h2 j (by omega) hj hp hk
      · rw [Ao k e e1]
        by_cases e2 : (k - 1) / 2 = i
        · rw [e2, Ai]
          exact hb k hk hkn e2
        · rw [Ao _ hkj e2]
          exact h1 k hk hkn e1 e2
  · rw [hp, Ai, Ao c (by omega) (by omega)]
    have := h1 c hc hcn (by omega) (by omega)
    unfold edge at this
    rw [hcj] at this
    exact this
theorem down_stop (l : List Item) (n i : Nat) (hs : 2 * i + 1 ≥ n ∨ ¬ less (at_ l (child l i n)) (at_ l i) = true) : ∀ k, 0 < k → k < n → (k - 1) / 2 = i → edge l k := by
  intro k hk hkn hki
  rcases hs with hs | hs
  · omega
  · unfold edge
    rw [hki]
    by_cases h : 2 * i + 1 < n
    · exact nless_trans ((child_is l i n h).2.2.2 k hk hkn hki) hs
    · omega
theorem down_spec (n : Nat) : ∀ (f : Nat) (l : List Item) (i : Nat), n ≤ l.length → i < n → n ≤ i + f → DnInv l n i →
    IsHeap (down f l i n).1 n ∧ (down f l i n).1.Perm l ∧ (∀ k, n ≤ k → at_ (down f l i n).1 k = at_ l k) ∧ i ≤ (down f l i n).2
  | 0, l, i, hn, hi, hf, h => by omega
  | f + 1, l, i, hn, hi, hf, h => by
    unfold down
    by_cases h1 : 2 * i + 1 ≥ n
    · rw [if_pos h1]
      refine ⟨fun k hk hkn => ?_, List.Perm.refl _, fun _ _ => rfl, Nat.le_refl _⟩
      by_cases e : (k - 1) / 2 = i
      · exact down_stop l n i (.inl h1) k hk hkn e
      · exact h.1 k hk hkn e
    · rw [if_neg h1]
      obtain ⟨c1, c2, c3, c4⟩ := child_is l i n (by omega)
      by_cases hl : less (at_ l (child l i n)) (at_ l i) = true
      · rw [if_pos hl]
        have hs := down_step l n i (child l i n) hn c1 c2 c3 c4 hl h.fix
        obtain ⟨a, b, c, d⟩ := down_spec n f (swap l i (child l i n)) (child l i n) (by rw [swap_len]; exact hn) c1 (by omega) hs
        refine ⟨a, b.trans (swap_perm _ _ _ (by omega) (by omega)), fun k hk => ?_, by omega⟩
        rw [c k hk, at_swap _ _ _ _ (by omega) (by omega), if_neg (by omega), if_neg (by omega)]
      · rw [if_neg hl]
        refine ⟨fun k hk hkn => ?_, List.Perm.refl _, fun _ _ => rfl, Nat.le_refl _⟩
        by_cases e : (k - 1) / 2 = i
        · exact down_stop l n i (.inr hl) k hk hkn e
        · exact h.1 k hk hkn e
/-- What is out of order at one place is set right: down, and, if nothing moved, up. -/
def setRight (l : List Item) (i n : Nat) : List Item := if i < (down n l i n).2 then (down n l i n).1 else up n (down n l i n).1 i
theorem setRight_spec (l : List Item) (i n : Nat) (hn : n ≤ l.length) (hi : i < n) (h : FixInv l n i) :
    IsHeap (setRight l i n) n ∧ (setRight l i n).Perm l ∧ (∀ k, n ≤ k → at_ (setRight l i n) k = at_ l k) := by
  unfold setRight
  obtain ⟨m, rfl⟩ : ∃ m, n = m + 1 := ⟨n - 1, by omega⟩
  by_cases hs : 2 * i + 1 ≥ m + 1 ∨ ¬ less (at_ l (child l i (m + 1))) (at_ l i) = true
  · have hd : down (m + 1) l i (m + 1) = (l, i) := by
      unfold down
      by_cases h1 : 2 * i + 1 ≥ m + 1
      · rw [if_pos h1]
      · rw [if_neg h1, if_neg (hs.resolve_left h1)]
    rw [hd, if_neg (Nat.lt_irrefl _)]
    refine up_spec (m + 1) (m + 1) l i hn hi (by omega) ⟨fun k hk hkn hki => ?_, h.2⟩
    by_cases e : (k - 1) / 2 = i
    · exact down_stop l (m + 1) i hs k hk hkn e
    · exact h.1 k hk hkn hki e
  · have h1 : ¬ 2 * i + 1 ≥ m + 1 := fun h' => hs (.inl h')
    have h2 : less (at_ l (child l i (m + 1))) (at_ l i) = true := Classical.not_not.1 (fun h' => hs (.inr h'))
    obtain ⟨c1, c2, c3, c4⟩ := child_is l i (m + 1) (by omega)
    have hd : down (m + 1) l i (m + 1) = down m (swap l i (child l i (m + 1))) (child l i (m + 1)) (m + 1) := by
      rw [down, if_neg h1, if_pos h2]
    have hstep := down_step l (m + 1) i (child l i (m + 1)) hn c1 c2 c3 c4 h2 h
    obtain ⟨a, b, c, d⟩ := down_spec (m + 1) m (swap l i (child l i (m + 1))) (child l i (m + 1)) (by rw [swap_len]; exact hn) c1 (by omega) hstep
    rw [hd, if_pos (by omega)]
    refine ⟨a, b.trans (swap_perm _ _ _ (by omega) (by omega)), fun k hk => ?_⟩
    rw [c k hk, at_swap _ _ _ _ (by omega) (by omega), if_neg (by omega), if_neg (by omega)]
/-! ### what the package does -/
theorem perm_length {l m : List Item} (h : l.Perm m) : l.length = m.length := h.length_eq
def push (l : List Item) (x : Item) : List Item := up (l.length + 1) (l ++ [x]) l.length
theorem push_spec (l : List Item) (x : Item) (h : IsHeap l l.length) : IsHeap (push l x) (l.length + 1) ∧ (push l x).Perm (l ++ [x]) := by
  have hlen : (l ++ [x]).length = l.length + 1 := by simp
  have := up_spec (l.length + 1) (l.length + 1) (l ++ [x]) l.length (by omega) (by omega) (by omega) ⟨fun k hk hkn hkj => ?_, fun c hc hcn hci h0 => by omega⟩
  · exact ⟨this.1, this.2.1⟩
  · unfold edge
    rw [at_append _ _ _ (by omega), at_append _ _ _ (by omega)]
    exact h k hk (by omega)
theorem fixInv_set (l : List Item) (i n : Nat) (x : Item) (hn : n ≤ l.length) (hi : i < n) (h : IsHeap l n) : FixInv (l.set i x) n i := by
  have A : ∀ k, k ≠ i → at_ (l.set i x) k = at_ l k := fun k e => by rw [at_set _ _ _ _ (by omega), if_neg e]
  refine ⟨fun k hk hkn hki hkp => ?_, fun c hc hcn hci h0 => ?_⟩
  · unfold edge
    rw [A k hki, A _ hkp]
    exact h k hk hkn
  · rw [A c (by omega), A _ (by omega)]
    have e1 := h c hc hcn
    have e2 := h i h0 hi
    unfold edge at e1 e2
    rw [hci] at e1
    exact nless_trans e1 e2
def fix (l : List Item) (i : Nat) (x : Item) : List Item := setRight (l.set i x) i l.length
theorem fix_spec (l : List Item) (i : Nat) (x : Item) (hi : i < l.length) (h : IsHeap l l.length) : IsHeap (fix l i x) l.length ∧ (fix l i x).Perm (l.set i x) := by
  have := setRight_spec (l.set i x) i l.length (by simp) hi (fixInv_set l i l.length x (Nat.le_refl _) hi h)
  exact ⟨this.1, this.2.1⟩
/-- Taken out: what is left, and the last one (the one that was asked for). -/
def out (l : List Item) (i : Nat) : List Item := if l.length - 1 = i then l else setRight (swap l i (l.length - 1)) i (l.length - 1)
theorem fixInv_congr (l m : List Item) (n i : Nat) (hA : ∀ k, k < n → at_ m k = at_ l k) (hi : i < n) (h : FixInv l n i) : FixInv m n i := by
  refine ⟨fun k hk hkn hki hkp => ?_, fun c hc hcn hci h0 => ?_⟩
  · unfold edge
    rw [hA k hkn, hA _ (by omega)]
    exact h.1 k hk hkn hki hkp
  · rw [hA c hcn, hA _ (by omega)]
    exact h.2 c hc hcn hci h0
theorem out_spec (l : List Item) (i : Nat) (hi : i < l.length) (h : IsHeap l l.length) :
    IsHeap (out l i) (l.length - 1) ∧ (out l i).Perm l ∧ at_ (out l i) (l.length - 1) = at_ l i := by
  unfold out
  by_cases e : l.length - 1 = i
  · rw [if_pos e]
    exact ⟨fun k hk hkn => h k hk (by omega), List.Perm.refl _, by rw [e]⟩
  · rw [if_neg e]
    have hA : ∀ k, at_ (swap l i (l.length - 1)) k = if k = l.length - 1 then at_ l i else if k = i then at_ l (l.length - 1) else at_ l k := fun k => at_swap l i (l.length - 1) k hi (by omega)
    have hF : FixInv (swap l i (l.length - 1)) (l.length - 1) i := by
      refine fixInv_congr (l.set i (at_ l (l.length - 1))) _ _ _ (fun k hk => ?_) (by omega) (fixInv_set l i (l.length - 1) _ (by omega) (by omega) (fun k hk hkn => h k hk (by omega)))
      rw [hA, at_set _ _ _ _ hi, if_neg (by omega)]
    have := setRight_spec (swap l i (l.length - 1)) i (l.length - 1) (by rw [swap_len]; omega) (by omega) hF
    refine ⟨this.1, this.2.1.trans (swap_perm _ _ _ hi (by omega)), ?_⟩
    rw [this.2.2 _ (Nat.le_refl _), hA, if_pos rfl]
/-- heap.Pop is heap.Remove at 0. -/
theorem least_first (l : List Item) (n : Nat) (hn : n ≤ l.length) (h : IsHeap l n) : ∀ k, k < n → ¬ less (at_ l k) (at_ l 0) = true := by
  intro k
  induction k using Nat.strongRecOn with
  | ind k ih =>
    intro hk
    by_cases e : k = 0
    · subst e; exact irrefl _
    · exact nless_trans (h k (by omega) hk) (ih ((k - 1) / 2) (by omega) (by omega))
theorem at_dropLast (l : List Item) (k : Nat) (h : k < l.length - 1) : at_ l.dropLast k = at_ l k := by
  unfold at_
  rw [List.getD_eq_getElem?_getD, List.getElem?_dropLast, if_pos h, List.getD_eq_getElem?_getD]
/-- What is left behind heap.Remove. -/
def rest (l : List Item) (i : Nat) : List Item := (out l i).dropLast
theorem rest_spec (l : List Item) (i : Nat) (hi : i < l.length) (h : IsHeap l l.length) : IsHeap (rest l i) (rest l i).length ∧ (rest l i ++ [at_ l i]).Perm l ∧ (rest l i).length = l.length - 1 := by
  obtain ⟨a, b, c⟩ := out_spec l i hi h
  have hb := perm_length b
  have hr : (rest l i).length = l.length - 1 := by unfold rest; rw [List.length_dropLast, hb]
  refine ⟨fun k hk hkn => ?_, ?_, hr⟩
  · rw [hr] at hkn
    unfold edge rest
    rw [at_dropLast _ _ (by omega), at_dropLast _ _ (by omega)]
    exact a k hk hkn
  · refine List.Perm.trans ?_ b
    have hne : out l i ≠ [] := by
      intro h'
      rw [h'] at hb
      simp at hb
      omega
    have hl : (out l i).getLast hne = at_ l i := by
      rw [List.getLast_eq_getElem, ← at_get, hb]
      exact c
    unfold rest
    rw [← hl, List.dropLast_concat_getLast]
end Go.Proofs.Ythjcdjanadeobaa.Heap
