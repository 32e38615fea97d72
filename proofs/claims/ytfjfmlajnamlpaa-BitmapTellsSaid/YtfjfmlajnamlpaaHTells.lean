/- Plain: the reference's map and bitmap.Write, the reference's numbers and bitmap.Parse answer alike. No program in sight. -/
import Derived.Test.YtfjfmlajnamlpaaHShort
import Derived.Test.YtfjfmlajnamlpaaMBx2
namespace Go.Proofs.Ytfjfmlajnamlpaa.MB
open Go.RowKit Go.Proofs.YtfjfmlajnamlpaaW.PrintWords Go.Proofs.YtfjfmlajnamlpaaW.PrintLast Go.Proofs.YtfjfmlajnamlpaaW.PrintMore
set_option linter.unusedVariables false
set_option linter.unusedSimpArgs false

theorem shr_tab : ∀ k : Fin 8, shr .u8 128 ((k.val : Nat) : Int) = 2 ^ (7 - k.val) % 256 := by decide +kernel
theorem ref_bit (n : Int) (h : 1 ≤ n) (h2 : n ≤ 1000) : shr .u8 128 (IntKind.u64.wrap (Int.tmod (wrap64 (n - 1)) 8)) = 2 ^ (7 - (n - 1) % 8).toNat % 256 := by
  have e1 : wrap64 (n - 1) = n - 1 := w64_in _ ⟨by omega, by omega⟩
  have e2 : IntKind.u64.wrap (Int.tmod (n - 1) 8) = (n - 1) % 8 := by
    rw [Int.tmod_eq_emod_of_nonneg (by omega)]
    have : 0 ≤ (n - 1) % 8 ∧ (n - 1) % 8 < 8 := by omega
    generalize (n - 1) % 8 = x at this
    simp [IntKind.wrap, IntKind.bits, IntKind.signed]; omega
  rw [e1, e2]
  have hk : 0 ≤ (n - 1) % 8 ∧ (n - 1) % 8 < 8 := by omega
  generalize (n - 1) % 8 = k at hk
  have := shr_tab ⟨k.toNat, by omega⟩
  rw [show ((⟨k.toNat, by omega⟩ : Fin 8).val : Int) = k from Int.toNat_of_nonneg hk.1] at this
  rw [this]
  congr 2
  show 7 - k.toNat = (7 - k).toNat
  omega
theorem ref_ix (n : Int) (h : 1 ≤ n) (h2 : n ≤ 1000) : wrap64 (Int.tdiv (wrap64 (n - 1)) 8) = (n - 1) / 8 := by
  rw [w64_in (n - 1) ⟨by omega, by omega⟩, Int.tdiv_eq_ediv_of_nonneg (by omega)]
  exact w64_in _ ⟨by omega, by omega⟩
theorem ref_set (x : List Int) (n : Int) (h : 1 ≤ n) (h2 : n ≤ 1000) : x.set (wrap64 (Int.tdiv (wrap64 (n - 1)) 8)).toNat (Go.bits .or .u8 (rd x (wrap64 (Int.tdiv (wrap64 (n - 1)) 8))) (shr .u8 128 (IntKind.u64.wrap (Int.tmod (wrap64 (n - 1)) 8)))) = setBit x n := by
  rw [ref_ix n h h2, ref_bit n h h2]
  rfl
theorem ref_first (y : List Int) : y.set (0 : Int).toNat (Go.bits .or .u8 (rd y 0) 128) = setBit y 1 := rfl
theorem fold_snoc (l : List Int) (n : Int) (x : List Int) : (l ++ [n]).foldl setBit x = setBit (l.foldl setBit x) n := by rw [List.foldl_append]; rfl
theorem bits_same (l : List Int) (z n : Int) (h : (64 < z ↔ 64 < n)) : bitsOf n (l ++ [n]) = setBit (bitsOf z l) n := by
  unfold bitsOf
  rw [fold_snoc]
  congr 2
  unfold startBits
  by_cases c : 64 < z
  · rw [if_pos c, if_pos (h.1 c)]
  · rw [if_neg c, if_neg (fun g => c (h.2 g))]
theorem bits_wide (l : List Int) (z n : Int) (hs : scanL 1 l = some z) (hz : ¬ 64 < z) (hn : 64 < n) : bitsOf n (l ++ [n]) = setBit (setBit (bitsOf z l ++ [0, 0, 0, 0, 0, 0, 0, 0]) 1) n := by
  have hb := scan_bounds l 1 z hs
  have hlen := bitsOf_length z l
  rw [if_neg hz] at hlen
  unfold bitsOf
  rw [fold_snoc]
  congr 1
  unfold startBits
  rw [if_pos hn]
  have hb8 : Bytes8 (bitsOf z l ++ [0, 0, 0, 0, 0, 0, 0, 0]) := by
    intro x hx
    rcases List.mem_append.1 hx with hx | hx
    · exact bitsOf_bytes z l x hx
    · have : x = 0 := by simpa using hx
      omega
  have hl16 : (bitsOf z l ++ [0, 0, 0, 0, 0, 0, 0, 0]).length = 16 := by rw [List.length_append, hlen]; rfl
  change l.foldl setBit (setBit (List.replicate 16 0) 1) = setBit (bitsOf z l ++ [0, 0, 0, 0, 0, 0, 0, 0]) 1
  apply bytes_ext
  · exact fold_bytes l (setBit_bytes (bytes_zeros 16) 1)
  · exact setBit_bytes hb8 1
  · rw [foldBit_length, setBit_length, setBit_length, hl16]; rfl
  · intro m h1 h2
    rw [fold_has l _ (setBit_bytes (bytes_zeros 16) 1) (fun y hy => by have := hb.2 y hy; rw [setBit_length]; simp; omega) m h1, setBit_has _ (bytes_zeros 16) 1 m (by decide) (by simp) h1, zeros_has, setBit_has _ hb8 1 m (by decide) (by omega) h1]
    rw [Bool.or_comm (hasBit _ m), Bool.false_or]
    congr 1
    by_cases c : m ≤ 64
    · rw [has_append _ _ m h1 (by omega), bitsOf_has l z hs m h1, decide_eq_false (show ¬ (64 < z ∧ m = 1) from fun g => hz g.1), Bool.false_or]
    · have e1 : decide (m ∈ l) = false := decide_eq_false fun g => by have := hb.2 m g; omega
      rw [e1]
      unfold hasBit
      have : rd (bitsOf z l ++ [0, 0, 0, 0, 0, 0, 0, 0]) ((m - 1) / 8) = 0 := by
        unfold rd
        rw [List.getD_eq_getElem?_getD, List.getElem?_append_right (by omega), hlen]
        have : ∀ j : Nat, (([0, 0, 0, 0, 0, 0, 0, 0] : List Int)[j]?).getD 0 = 0 := by
          intro j
          match j with
          | 0 | 1 | 2 | 3 | 4 | 5 | 6 | 7 => rfl
          | j + 8 => rfl
        exact this _
      rw [this]
      exact (Nat.zero_testBit _).symm
theorem scan_split (l : List Int) (i : Nat) (z : Int) (h : scanL 1 (l.take i) = some z) : scanL 1 l = scanL z (l.drop i) := by
  have := scan_append (l.take i) (l.drop i) 1
  rw [List.take_append_drop, h] at this
  exact this
def writeL (l : List Int) : List Int × Int := match scanL 1 l with | none => ([], 1) | some z => (bitsOf z l, 0)
theorem write_is (l : List Int) : bitmap_Write.f l = some (writeL l) := by
  unfold writeL
  cases h : scanL 1 l with
  | none => exact write_none l h
  | some z => exact write_some l z h
theorem write_ref (l : List Int) (hl : l.length ≤ 200) (d : Nat) : ∀ (i : Nat) (z : Int), i + d = l.length → scanL 1 (l.take i) = some z → ((i = 0 ∧ z = 1) ∨ (0 < i ∧ z = rd l ((i : Int) - 1) ∧ 2 ≤ z)) →
    Ev (fun k => comptoirref01_WriteMap.l0 k l (bitsOf z (l.take i)) i) (writeL l) := by
  induction d with
  | zero =>
    intro i z hi hs hz
    have e : l.take i = l := List.take_of_length_le (by omega)
    rw [e] at hs ⊢
    refine Ev.step (f := fun _ => some (writeL l)) (fun k => ?_) (Ev.now _)
    simp only [comptoirref01_WriteMap.l0]
    rw [if_neg (by omega)]
    unfold writeL
    rw [hs]
  | succ d ih =>
    intro i z hi hs hz
    have hlt : i < l.length := by omega
    have hd := rd_drop l i hlt
    have ht := take_rd l i hlt
    have hsp := scan_split l i z hs
    rw [hd] at hsp
    simp only [scanL] at hsp
    generalize hn : rd l (i : Int) = n at hd ht hsp
    have bad : (n ≤ z ∨ 128 < n ∨ n = 65) → Ev (fun k => comptoirref01_WriteMap.j1 k l (bitsOf z (l.take i)) i n true) (writeL l) := by
      intro hb
      refine Ev.step (f := fun _ => some (writeL l)) (fun k => ?_) (Ev.now _)
      simp only [comptoirref01_WriteMap.j1, if_true]
      have : scanL 1 l = none := by
        rw [hsp]
        rcases hb with h | h | h
        · rw [if_pos h]
        · by_cases h0 : n ≤ z
          · rw [if_pos h0]
          · rw [if_neg h0, if_pos h]
        · by_cases h0 : n ≤ z
          · rw [if_pos h0]
          · by_cases h1 : 128 < n
            · rw [if_neg h0, if_pos h1]
            · rw [if_neg h0, if_neg h1, if_pos h]
      unfold writeL
      rw [this]
    have step : ∀ k b, (n < 2 → b = true) → (n > 128 → b = true) → (n = 65 → b = true) → ((¬ n < 2 ∧ ¬ n > 128 ∧ ¬ n = 65) → b = if 0 < i then decide (n ≤ z) else false) → comptoirref01_WriteMap.l0 (k + 1) l (bitsOf z (l.take i)) i = comptoirref01_WriteMap.j1 k l (bitsOf z (l.take i)) i n b := by
      intro k b b1 b2 b3 b4
      simp only [comptoirref01_WriteMap.l0]
      rw [if_pos (by omega), if_pos (by omega), hn]
      by_cases c1 : n < 2
      · rw [if_pos c1, b1 c1]
      · rw [if_neg c1]
        by_cases c2 : n > 128
        · rw [if_pos c2, b2 c2]
        · rw [if_neg c2]
          by_cases c3 : n = 65
          · rw [if_pos c3, b3 c3]
          · rw [if_neg c3, b4 ⟨c1, c2, c3⟩]
            by_cases c4 : 0 < i
            · have ew : wrap64 ((i : Int) - 1) = (i : Int) - 1 := w64_in _ ⟨by omega, by omega⟩
              rw [if_pos (by omega), ew, if_pos (by omega), if_pos (by omega), if_pos c4]
              rcases hz with h | h
              · omega
              · rw [h.2.1]
            · rw [if_neg (by omega), if_neg c4]
    by_cases hok : n ≤ z ∨ 128 < n ∨ n = 65
    · refine Ev.step (fun k => step k true (fun _ => rfl) (fun _ => rfl) (fun _ => rfl) (fun h => ?_)) (bad hok)
      rcases hz with ⟨h0, h1⟩ | ⟨h0, _⟩
      · omega
      · rw [if_pos h0]
        exact (decide_eq_true (by omega)).symm
    · have hgo : z < n ∧ n ≤ 128 ∧ n ≠ 65 := by omega
      have hz1 : 1 ≤ z := by rcases hz with h | h <;> omega
      have hs2 : scanL 1 (l.take (i + 1)) = some n := by rw [ht]; exact scan_snoc _ 1 z n hs hgo.1 hgo.2.1 hgo.2.2
      have ew : wrap64 ((i : Int) + 1) = ((i + 1 : Nat) : Int) := by rw [w64_in _ ⟨by omega, by omega⟩]; omega
      have nxt := ih (i + 1) n (by omega) hs2 (.inr ⟨by omega, by rw [show (((i + 1 : Nat) : Int) - 1) = (i : Int) by omega, hn], by omega⟩)
      rw [ht] at nxt
      refine Ev.step (fun k => step k false (fun h => by omega) (fun h => by omega) (fun h => by omega) (fun h => ?_)) (Ev.step (fun k => ?_) nxt)
      · split
        · exact (decide_eq_false (by omega)).symm
        · rfl
      · have hlen := bitsOf_length z (l.take i)
        simp only [comptoirref01_WriteMap.j1, Bool.false_eq_true, if_false]
        have hix := ref_ix n (by omega) (by omega)
        have hub : 0 ≤ IntKind.u64.wrap (Int.tmod (wrap64 (n - 1)) 8) := u64_pos _
        by_cases c64 : n > 64
        · rw [if_pos c64]
          by_cases cz : 64 < z
          · rw [if_pos cz] at hlen
            rw [if_neg (by omega), if_pos (by rw [hix]; omega), if_pos (by rw [hix]; omega), if_pos hub, ref_set _ n (by omega) (by omega), ew, bits_same (l.take i) z n (by omega)]
          · rw [if_neg cz] at hlen
            rw [if_pos (by omega)]
            simp only [Option.bind_some]
            rw [if_pos (by rw [hlen]; decide), if_pos (by rw [List.length_append, hlen]; decide), if_pos (by rw [hix]; omega), if_pos (by rw [hix, List.length_append, hlen]; simp; omega), if_pos hub, ref_first, ref_set _ n (by omega) (by omega), ew, bits_wide (l.take i) z n hs cz c64]
        · rw [if_neg c64, if_pos (by rw [hix]; omega), if_pos (by rw [hix, hlen, if_neg (by omega)]; omega), if_pos hub, ref_set _ n (by omega) (by omega), ew, bits_same (l.take i) z n (by omega)]
theorem write_alike (l : List Int) (hl : l.length ≤ 200) : ∃ k, comptoirref01_WriteMap.f k l = some (writeL l) := by
  have h := write_ref l hl l.length 0 1 (by omega) rfl (.inl ⟨rfl, rfl⟩)
  apply Ev.rounds
  refine Ev.congr (fun k => ?_) h
  unfold comptoirref01_WriteMap.f
  rw [if_pos (by decide)]
  rfl
end Go.Proofs.Ytfjfmlajnamlpaa.MB
