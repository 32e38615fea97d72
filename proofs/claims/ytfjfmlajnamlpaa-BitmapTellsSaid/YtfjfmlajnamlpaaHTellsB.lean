/- Plain: the reference's numbers and bitmap.Parse answer alike. No program in sight. -/
import Derived.Test.YtfjfmlajnamlpaaHTells
import Derived.Test.YtfjfmlajnamlpaaMBx2
namespace Go.Proofs.Ytfjfmlajnamlpaa.MB
open Go.RowKit Go.Proofs.YtfjfmlajnamlpaaW.PrintWords Go.Proofs.YtfjfmlajnamlpaaW.PrintLast Go.Proofs.YtfjfmlajnamlpaaW.PrintMore
set_option linter.unusedVariables false
set_option linter.unusedSimpArgs false


/-! ### the numbers of a map -/
theorem and_tab : ∀ k : Fin 8, ∀ x : Fin 256, decide (Go.bits .and .u8 (x.val : Int) (2 ^ (7 - k.val) % 256) = 0) = !(x.val.testBit (7 - k.val)) := by decide +kernel
theorem ref_has (x : List Int) (n : Int) (h8 : Bytes8 x) (h : 1 ≤ n) (h2 : n ≤ 1000) : (Go.bits .and .u8 (rd x (wrap64 (Int.tdiv (wrap64 (n - 1)) 8))) (shr .u8 128 (IntKind.u64.wrap (Int.tmod (wrap64 (n - 1)) 8))) = 0) ↔ hasBit x n = false := by
  rw [ref_ix n h h2, ref_bit n h h2]
  unfold hasBit
  have hr := bytes_rd h8 ((n - 1) / 8)
  generalize rd x ((n - 1) / 8) = y at hr
  have hk : 0 ≤ (n - 1) % 8 ∧ (n - 1) % 8 < 8 := by omega
  generalize (n - 1) % 8 = k at hk
  have := and_tab ⟨k.toNat, by omega⟩ ⟨y.toNat, by omega⟩
  simp only [Int.toNat_of_nonneg hr.1] at this
  rw [show (7 - k).toNat = 7 - k.toNat by omega]
  rw [← decide_eq_true_iff (p := Go.bits .and .u8 y (2 ^ (7 - k.toNat) % 256) = 0), this]
  simp
theorem ref_top (x : List Int) (h8 : Bytes8 x) : (Go.bits .and .u8 (rd x 0) 128 = 0) ↔ hasBit x 1 = false := by
  have := ref_has x 1 h8 (by decide) (by decide)
  rw [show wrap64 (Int.tdiv (wrap64 (1 - 1)) 8) = 0 by decide +kernel, show shr .u8 128 (IntKind.u64.wrap (Int.tmod (wrap64 (1 - 1)) 8)) = 128 by decide +kernel] at this
  exact this
theorem in_ref (X : List Int) (v : Int) (hX : X.length ≤ 1000) (d : Nat) : ∀ i : Nat, i + d = X.length → Ev (fun k => comptoirhelp_In_int.l0 k X v i) (decide (v ∈ X.drop i)) := by
  induction d with
  | zero =>
    intro i hi
    have e : decide (v ∈ X.drop i) = false := decide_eq_false (by rw [List.drop_eq_nil_of_le (by omega)]; exact List.not_mem_nil)
    rw [e]
    refine Ev.step (f := fun _ => some false) (fun k => ?_) (Ev.now _)
    simp only [comptoirhelp_In_int.l0]
    rw [if_neg (by omega)]
  | succ d ih =>
    intro i hi
    have hd := rd_drop X i (by omega)
    by_cases c : rd X (i : Int) = v
    · have e : decide (v ∈ X.drop i) = true := decide_eq_true (by rw [hd, c]; exact List.mem_cons_self ..)
      rw [e]
      refine Ev.step (f := fun _ => some true) (fun k => ?_) (Ev.now _)
      simp only [comptoirhelp_In_int.l0]
      rw [if_pos (by omega), if_pos (by omega), if_pos c]
    · have e : decide (v ∈ X.drop i) = decide (v ∈ X.drop (i + 1)) := by
        rw [hd]
        congr 1
        rw [List.mem_cons, eq_iff_iff]
        exact ⟨fun h => h.resolve_left (fun g => c g.symm), Or.inr⟩
      rw [e]
      refine Ev.step (fun k => ?_) (ih (i + 1) (by omega))
      simp only [comptoirhelp_In_int.l0]
      rw [if_pos (by omega), if_pos (by omega), if_neg c, show wrap64 ((i : Int) + 1) = ((i + 1 : Nat) : Int) by rw [w64_in _ ⟨by omega, by omega⟩]; omega]
theorem last_mem (X : List Int) (h : X ≠ []) : rd X ((X.length : Int) - 1) ∈ X ∧ (X.Pairwise (· < ·) → ∀ y ∈ X, y ≤ rd X ((X.length : Int) - 1)) := by
  have hl : 0 < X.length := List.length_pos_iff.2 h
  have e : rd X ((X.length : Int) - 1) = X.getLast h := by
    have := X.getLast_eq_getElem h
    rw [this]
    unfold rd
    rw [List.getD_eq_getElem?_getD, show ((X.length : Int) - 1).toNat = X.length - 1 by omega, List.getElem?_eq_getElem (by omega)]
    rfl
  rw [e]
  refine ⟨List.getLast_mem h, fun hp y hy => ?_⟩
  obtain ⟨j, hj, rfl⟩ := List.getElem_of_mem hy
  rw [X.getLast_eq_getElem h]
  by_cases c : j = X.length - 1
  · subst c; exact Int.le_refl _
  · exact Int.le_of_lt (List.pairwise_iff_getElem.1 hp j (X.length - 1) hj (by omega) (by omega))
theorem parse_end (b : List Int) (N : Nat) (hN : (N = 8 ∧ hasBit b 1 = false) ∨ (N = 16 ∧ hasBit b 1 = true)) (hb : N ≤ b.length) (hb2 : b.length ≤ 100) :
    Ev (fun k => comptoirref01_ParseMap.l0 k b N (whichL b 2 (8 * N - 1)) ((8 * N + 1 : Nat) : Int)) (parseL 3 6 b) := by
  have e8 : wrap64 (8 * (N : Int)) = 8 * N := w64_in _ ⟨by omega, by omega⟩
  have hlen := whichL_length b 2 (8 * N - 1)
  have hmem := whichL_mem b 2 (8 * N - 1)
  rcases hN with ⟨rfl, h1⟩ | ⟨rfl, h1⟩
  · refine Ev.step (f := fun _ => some (parseL 3 6 b)) (fun k => ?_) (Ev.now _)
    simp only [comptoirref01_ParseMap.l0]
    rw [e8, if_neg (by omega), if_neg (by decide)]
    unfold parseL
    rw [if_neg (by omega), if_pos h1]
    rfl
  · have hp : parseL 3 6 b = if hasBit b 65 = true then ([], 0, 6) else if whichL b 66 63 = [] then ([], 0, 6) else (whichL b 2 127, 16, 0) := by
      unfold parseL
      rw [if_neg (by omega), h1, if_neg (by simp), if_neg (by omega)]
    have hin := in_ref (whichL b 2 127) 65 (by have := whichL_length b 2 127; omega) (whichL b 2 127).length 0 (by omega)
    rw [List.drop_zero] at hin
    have h65 : decide (65 ∈ whichL b 2 127) = hasBit b 65 := by
      rw [Bool.eq_iff_iff, decide_eq_true_eq, whichL_mem]
      exact ⟨fun h => h.2, fun h => ⟨⟨by decide, by decide⟩, h⟩⟩
    rw [h65] at hin
    refine Ev.step (f := fun k => (comptoirhelp_In_int.f k (whichL b 2 127) 65).bind fun t => if t = true then some (([] : List Int), (0 : Int), (6 : Int)) else (if ((whichL b 2 127).length : Int) = 0 then (some (([] : List Int), 0, 6)) else (if 0 ≤ (wrap64 (((whichL b 2 127).length : Int) - 1)) then (if (wrap64 (((whichL b 2 127).length : Int) - 1)) < ((whichL b 2 127).length : Int) then (if (rd (whichL b 2 127) (wrap64 (((whichL b 2 127).length : Int) - 1))) < 66 then (some (([] : List Int), 0, 6)) else (some (whichL b 2 127, 16, 0))) else (none)) else (none)))) (fun k => ?_) (Ev.bind (a := hasBit b 65) hin ?_)
    · simp only [comptoirref01_ParseMap.l0]
      rw [e8, if_neg (by omega), if_pos (by decide)]
      rfl
    · refine Ev.congr (f := fun _ => some (parseL 3 6 b)) (fun k => ?_) (Ev.now _)
      rw [hp]
      have hsort := whichL_sorted b 2 127
      have hm := whichL_mem b 2 127
      generalize hX : whichL b 2 127 = X at hsort hm
      by_cases c1 : hasBit b 65 = true
      · rw [if_pos c1, if_pos c1]
      · rw [if_neg c1, if_neg c1]
        by_cases c2 : X = []
        · have : whichL b 66 63 = [] := by
            apply List.eq_nil_iff_forall_not_mem.2
            intro m hmm
            have h := (whichL_mem b 66 63 m).1 hmm
            have := (hm m).2 ⟨⟨by omega, by omega⟩, h.2⟩
            rw [c2] at this
            exact List.not_mem_nil this
          rw [if_pos this, if_pos (by rw [c2]; rfl)]
        · have hl : 0 < X.length := List.length_pos_iff.2 c2
          have hXl : X.length ≤ 127 := by rw [← hX]; exact whichL_length b 2 127
          have ew : wrap64 ((X.length : Int) - 1) = (X.length : Int) - 1 := w64_in _ ⟨by omega, by omega⟩
          rw [if_neg (by omega), ew, if_pos (by omega), if_pos (by omega)]
          obtain ⟨l1, l2⟩ := last_mem X c2
          have l2 := l2 hsort
          generalize rd X ((X.length : Int) - 1) = z at l1 l2
          have hz := (hm z).1 l1
          by_cases c3 : z < 66
          · have : whichL b 66 63 = [] := by
              apply List.eq_nil_iff_forall_not_mem.2
              intro m hmm
              have h := (whichL_mem b 66 63 m).1 hmm
              have := l2 m ((hm m).2 ⟨⟨by omega, by omega⟩, h.2⟩)
              omega
            rw [if_pos c3, if_pos this]
          · have hne : whichL b 66 63 ≠ [] := by
              intro e
              have : z ∈ whichL b 66 63 := (whichL_mem b 66 63 z).2 ⟨⟨by omega, by omega⟩, hz.2⟩
              rw [e] at this
              exact List.not_mem_nil this
            rw [if_neg c3, if_neg hne]
theorem parse_step (b X : List Int) (M m : Int) (k : Nat) (eM : wrap64 (8 * M) = 8 * M) (h8 : Bytes8 b) (m1 : 2 ≤ m) (m2 : m ≤ 8 * M) (m3 : m ≤ 1000) (hb : (m - 1) / 8 < (b.length : Int)) :
    comptoirref01_ParseMap.l0 (k + 1) b M X m = if hasBit b m = true then (if X.length < 17592186044416 then comptoirref01_ParseMap.l0 k b M (X ++ [m]) (m + 1) else none) else comptoirref01_ParseMap.l0 k b M X (m + 1) := by
  have q1 : m ≤ wrap64 (8 * M) := Int.le_trans m2 (Int.le_of_eq eM.symm)
  have q2 : 0 ≤ wrap64 (Int.tdiv (wrap64 (m - 1)) 8) := by rw [ref_ix m (by omega) m3]; omega
  have q3 : wrap64 (Int.tdiv (wrap64 (m - 1)) 8) < (b.length : Int) := by rw [ref_ix m (by omega) m3]; exact hb
  have q4 : 0 ≤ IntKind.u64.wrap (Int.tmod (wrap64 (m - 1)) 8) := u64_pos _
  have q5 : wrap64 (m + 1) = m + 1 := w64_in _ ⟨by omega, by omega⟩
  have hh := ref_has b m h8 (by omega) m3
  clear eM m1 m2 m3 hb h8
  simp only [comptoirref01_ParseMap.l0]
  rw [if_pos q1, if_pos q2, if_pos q3, if_pos q4, q5]
  by_cases c : hasBit b m = true
  · rw [if_neg (fun h => by rw [hh.1 h] at c; cases c), if_pos c]
  · rw [if_pos (hh.2 (by simpa using c)), if_neg c]
theorem parse_loop (b : List Int) (N : Nat) (h8 : Bytes8 b) (hN : (N = 8 ∧ hasBit b 1 = false) ∨ (N = 16 ∧ hasBit b 1 = true)) (hb : N ≤ b.length) (hb2 : b.length ≤ 100) (d : Nat) :
    ∀ j : Nat, j + d = 8 * N - 1 → Ev (fun k => comptoirref01_ParseMap.l0 k b N (whichL b 2 j) ((j : Int) + 2)) (parseL 3 6 b) := by
  have hN2 : 8 ≤ N ∧ N ≤ 16 := by rcases hN with h | h <;> omega
  induction d with
  | zero =>
    intro j hj
    obtain rfl : j = 8 * N - 1 := by omega
    have := parse_end b N hN hb hb2
    rw [show (((8 * N - 1 : Nat) : Int) + 2) = ((8 * N + 1 : Nat) : Int) by omega]
    exact this
  | succ d ih =>
    intro j hj
    have nxt := ih (j + 1) (by omega)
    rw [whichL_succ] at nxt
    have hlen := whichL_length b 2 j
    have e1 : ((j + 1 : Nat) : Int) + 2 = (j : Int) + 2 + 1 := by omega
    have e2 : (2 : Int) + (j : Int) = (j : Int) + 2 := Int.add_comm _ _
    have hl : (whichL b 2 j).length < 17592186044416 := by omega
    rw [e1, e2] at nxt
    have st := fun k => parse_step b (whichL b 2 j) (N : Int) ((j : Int) + 2) k (w64_in _ ⟨by omega, by omega⟩) h8 (by omega) (by omega) (by omega) (by omega)
    clear e1 e2 hlen ih hN hb hb2 hN2 hj
    refine Ev.step st ?_
    by_cases c : hasBit b ((j : Int) + 2) = true
    · rw [if_pos c] at nxt
      refine Ev.congr (fun k => ?_) nxt
      rw [if_pos c, if_pos hl]
    · rw [if_neg c, List.append_nil] at nxt
      refine Ev.congr (fun k => ?_) nxt
      rw [if_neg c]
theorem parse_alike (b : List Int) (h8 : Bytes8 b) (hb : b.length ≤ 100) : ∃ k, comptoirref01_ParseMap.f k b = some (parseL 3 6 b) := by
  by_cases c0 : b.length < 8
  · refine ⟨0, ?_⟩
    unfold comptoirref01_ParseMap.f parseL
    rw [if_pos (by omega), if_pos c0]
  · have go : ∀ N : Nat, ((N = 8 ∧ hasBit b 1 = false) ∨ (N = 16 ∧ hasBit b 1 = true)) → Ev (fun k => comptoirref01_ParseMap.j0 k b (N : Int)) (parseL 3 6 b) := by
      intro N hN
      by_cases c : b.length < N
      · refine Ev.step (f := fun _ => some (parseL 3 6 b)) (fun k => ?_) (Ev.now _)
        simp only [comptoirref01_ParseMap.j0]
        rw [if_pos (by omega)]
        rcases hN with ⟨rfl, h1⟩ | ⟨rfl, h1⟩
        · omega
        · unfold parseL
          rw [if_neg c0, h1, if_neg (by simp), if_pos c]
      · refine Ev.step (fun k => ?_) (parse_loop b N h8 hN (by omega) hb (8 * N - 1) 0 (by omega))
        simp only [comptoirref01_ParseMap.j0]
        rw [if_neg (by omega)]
        rfl
    apply Ev.rounds
    cases h1 : hasBit b 1 with
    | false =>
      refine Ev.congr (fun k => ?_) (go 8 (.inl ⟨rfl, h1⟩))
      unfold comptoirref01_ParseMap.f
      rw [if_neg (by omega), if_pos (by omega), if_pos ((ref_top b h8).2 h1)]
      rfl
    | true =>
      refine Ev.congr (fun k => ?_) (go 16 (.inr ⟨rfl, h1⟩))
      unfold comptoirref01_ParseMap.f
      rw [if_neg (by omega), if_pos (by omega), if_neg (fun h => by rw [(ref_top b h8).1 h] at h1; cases h1)]
      rfl
end Go.Proofs.Ytfjfmlajnamlpaa.MB
