/- ResidueBack: part 6 of its proof. -/
import Derived.Test.YthapknnppabdaaaGreatZ05
namespace Go.Proofs.YthapknnppabdaaaGreat.MQ
open Go.RowKit Go.Proofs.YthapknnppabdaaaGreatW.PrintWords Go.Proofs.YthapknnppabdaaaGreatW.PrintLast Go.Proofs.YthapknnppabdaaaGreatW.PrintMore
set_option linter.unusedVariables false
set_option linter.unusedSimpArgs false
abbrev par (L : List S133) (i : Int) : Int := (rd_T133 L i).f0
def kidsTo (L : List S133) (i : Int) (n : Nat) : List Int := ((List.range n).filter fun (k : Nat) => par L (k : Int) == i).map fun (k : Nat) => (k : Int)
/-- Which nodes stand in a node. -/
def kidsIx (L : List S133) (i : Int) : List Int := if 0 ≤ i ∧ i < (L.length : Int) then kidsTo L i L.length else []
theorem kidsTo_succ (L : List S133) (i : Int) (n : Nat) : kidsTo L i (n + 1) = if par L (n : Int) = i then kidsTo L i n ++ [(n : Int)] else kidsTo L i n := by
  unfold kidsTo
  rw [List.range_succ, List.filter_append, List.map_append]
  by_cases h : par L (n : Int) = i
  · rw [if_pos h]; simp [h]
  · rw [if_neg h]; simp [h]
theorem kidsTo_len (L : List S133) (i : Int) (n : Nat) : (kidsTo L i n).length ≤ n := by
  unfold kidsTo
  rw [List.length_map]
  exact Nat.le_trans (List.length_filter_le ..) (by simp)
def KidsEnd (L : List S133) (i : Int) (w : World) (e : Ending) (w' : World) : Prop := ∃ (A : Option Addr) (c : Nat), e = .returned (.slice A (kidsIx L i).length c) ∧ (Kd.int .i64).C w' A (kidsIx L i).length (kidsIx L i) ∧ (kidsIx L i).length ≤ c ∧ Below w.heap.size w w'
set_option maxHeartbeats 8000000 in
set_option maxRecDepth 10000 in
theorem kidsAll_e (A : Option Addr) (c : Nat) (L : List S133) (i : Int) (w : World) (hC : k133.C w A L.length L) (hc : L.length ≤ c) (hn : L.length ≤ 1000) : Calls Tryz.prog 92 #[.slice A L.length c, .int .i64 i] w (KidsEnd L i w) := by
  have HN := Aside0.mk hn
  have HC := Aside0.mk hC
  have BW := Aside0.mk (Below.refl w.heap.size w)
  clear hC
  by_cases hi : 0 ≤ i ∧ i < (L.length : Int)
  · have hi0 := hi.1
    have hi1 := hi.2
    have HE : Aside0 (kidsIx L i = kidsTo L i L.length) := ⟨by unfold kidsIx; rw [if_pos hi]⟩
    clear hi
    go_enter Tryz.func92, Tryz.ntmps92
    go_wp2_with fail
    go_loopg [5, 6] L.length (fun gg s5 s6 wr => ∃ (kk : Nat) (l : List Int), kk ≤ L.length ∧ L.length - kk ≤ gg ∧ s6 = .int .i64 kk ∧ Aside0 (l = kidsTo L i kk) ∧ Aside0 (Kd.R (Kd.int .i64) 3 wr w.heap.size (fun _ => True) s5 l) ∧ Aside0 (Below w.heap.size w wr))
    case atStart => exact ⟨0, [], by omega, by omega, rfl, ⟨rfl⟩, ⟨Kd.R_nil _ _ _ _ _⟩, BW⟩
    case round =>
      obtain ⟨kk, l, hkk, hg, rfl, HL, HO, BW⟩ := hrel
      by_cases hlt : kk < L.length
      · have hltz : (kk : Int) < (L.length : Int) := by omega
        obtain ⟨ad, A3, c3, ea, c0, _⟩ := at_T133 (Kd.C_below HC.out BW.out) (kk : Int) (by omega) hltz
        simp only [Int.toNat_natCast] at c0
        have HA := Aside0.mk ea
        obtain ⟨q, hq⟩ : ∃ q, q = (rd_T133 L (kk : Int)).f0 := ⟨_, rfl⟩
        rw [← hq] at c0
        have HQ := Aside0.mk hq
        clear hq
        subst ea
        have HZ : Aside0 ((l.length + 1) * 8 ≤ 140737488355328) := ⟨by have := kidsTo_len L i kk; rw [HL.out]; have := HN.out; omega⟩
        by_cases qi : q = i
        · have q1 : (q == i) = true := beq_iff_eq.mpr qi
          have HL2 : Aside0 (l ++ [(kk : Int)] = kidsTo L i (kk + 1)) := ⟨by rw [kidsTo_succ, if_pos (by show (rd_T133 L (kk : Int)).f0 = i; rw [← HQ.out]; exact qi), HL.out]⟩
          replace qi := Aside0.mk qi
          go_wp2_with (first | ((with_reducible refine gate_builtin (b := .append) (xs := #[.tmp 30, .tmp 32]) rfl ?_); at_builtin; refine Kd.R_append (Kd.int .i64) (w0 := w) w.heap.size rfl (.tmp 30) (.tmp 32) 144 3 (.int .i64 0) 8 rfl Tryz.underlying144 info3 rfl (by decide) (by omega) u5 l (kk : Int) [.int .i64 (kk : Int)] (fun _ => True) (fun _ => False) rfl rfl ?aP (fun _ hk => hk.elim) ?aF ?aO ?aB ?aS ?aL ?_; (case aP => exact rfl); (case aB => exact BW.out); (case aF => exact (fun _ _ => trivial)); (case aO => exact HO.out); (case aS => exact below_size BW.out); (case aL => exact HZ.out); intro v1 w2 ho hb hg hat; have HO2 := Aside0.mk ho; have BY := Aside0.mk hb; clear ho hb hg hat))
          go_roundg (L.length - (kk + 1))
          case measure => omega
          case rel => exact ⟨kk + 1, _, by omega, by omega, by go_num, HL2, HO2, BY⟩
        · have q1 : (q == i) = false := beq_eq_false_iff_ne.mpr qi
          have HL2 : Aside0 (l = kidsTo L i (kk + 1)) := ⟨by rw [kidsTo_succ, if_neg (by show ¬ (rd_T133 L (kk : Int)).f0 = i; rw [← HQ.out]; exact qi), HL.out]⟩
          replace qi := Aside0.mk qi
          go_wp2_with fail
          go_roundg (L.length - (kk + 1))
          case measure => omega
          case rel => exact ⟨kk + 1, _, by omega, by omega, by go_num, HL2, HO, BW⟩
      · have hltz : ¬ (kk : Int) < (L.length : Int) := by omega
        have e : kk = L.length := by omega
        have HL2 : Aside0 (l = kidsIx L i) := ⟨by rw [HE.out, HL.out, e]⟩
        obtain ⟨A1, c1, e1, hc1, hC1⟩ := Kd.R_reads HO.out
        subst e1
        have HF := Aside0.mk (And.intro hc1 hC1)
        clear hc1 hC1 HO
        obtain ⟨n, hn2⟩ : ∃ n, n = l.length := ⟨_, rfl⟩
        rw [← hn2] at HF ⊢
        have HN2 := Aside0.mk hn2
        clear hn2
        go_wp2_with fail
        go_ret
        unfold KidsEnd
        rw [← HL2.out, ← HN2.out]
        exact ⟨_, _, rfl, HF.out.2, HF.out.1, BW.out⟩
  · have HE : Aside0 (kidsIx L i = []) := ⟨by unfold kidsIx; rw [if_neg hi]⟩
    have HK : Aside0 (KidsEnd L i w (.returned (.slice none 0 0)) w) := ⟨by unfold KidsEnd; rw [HE.out]; exact ⟨_, _, rfl, Kd.C_nil _ _, Nat.le_refl _, BW.out⟩⟩
    by_cases h0 : (0 : Int) < (L.length : Int)
    · by_cases hi0 : 0 ≤ i
      · have hi1 : ¬ i < (L.length : Int) := by omega
        go_enter Tryz.func92, Tryz.ntmps92
        go_wp2_with fail
        go_loopg [5, 6] 0 (fun gg s5 s6 wr => s5 = .slice none 0 0 ∧ s6 = .int .i64 0 ∧ Aside0 (w = wr))
        case atStart => exact ⟨rfl, rfl, ⟨rfl⟩⟩
        case round =>
          obtain ⟨rfl, rfl, HW⟩ := hrel
          obtain rfl := HW.out
          go_wp2_with fail
          go_ret
          exact HK.out
      · go_enter Tryz.func92, Tryz.ntmps92
        go_wp2_with fail
        go_loopg [5, 6] 0 (fun gg s5 s6 wr => s5 = .slice none 0 0 ∧ s6 = .int .i64 0 ∧ Aside0 (w = wr))
        case atStart => exact ⟨rfl, rfl, ⟨rfl⟩⟩
        case round =>
          obtain ⟨rfl, rfl, HW⟩ := hrel
          obtain rfl := HW.out
          go_wp2_with fail
          go_ret
          exact HK.out
    · go_enter Tryz.func92, Tryz.ntmps92
      go_wp2_with fail
      go_loopg [5, 6] 0 (fun gg s5 s6 wr => s5 = .slice none 0 0 ∧ s6 = .int .i64 0 ∧ Aside0 (w = wr))
      case atStart => exact ⟨rfl, rfl, ⟨rfl⟩⟩
      case round =>
        obtain ⟨rfl, rfl, HW⟩ := hrel
        obtain rfl := HW.out
        go_wp2_with fail
        go_ret
        exact HK.out
/-- Each node's parent stands ahead of it. -/
def TreeOK (L : List S133) : Prop := ∀ k : Nat, k < L.length → -1 ≤ par L (k : Int) ∧ par L (k : Int) < (k : Int)
/-- A node is the last one, or one of the two it stands in. -/
def Near (L : List S133) (i k : Int) : Prop := k = i ∨ (0 ≤ k ∧ par L k = i) ∨ (0 ≤ k ∧ 0 ≤ par L k ∧ par L (par L k) = i)
theorem Near.up {L : List S133} {i k : Int} (h : Near L i k) (hk : k ≠ i) : Near L i (par L k) := by
  rcases h with h | ⟨h0, h⟩ | ⟨h0, h1, h⟩
  · exact absurd h hk
  · exact .inl h
  · exact .inr (.inl ⟨h1, h⟩)
theorem Near.end_ {L : List S133} {i k : Int} (h : Near L i k) (hi : 0 ≤ i) (hk : k < 0) : False := by
  rcases h with h | ⟨h0, h⟩ | ⟨h0, h1, h⟩ <;> omega
set_option maxHeartbeats 4000000 in
theorem opens_e (A : Option Addr) (c : Nat) (L : List S133) (i last : Int) (w : World) (hC : k133.C w A L.length L) (hc : L.length ≤ c) (hT : TreeOK L) (hi : 0 ≤ i) (h0 : -1 ≤ last) (h1 : last < (L.length : Int)) : Calls Tryz.prog 109 #[.slice A L.length c, .int .i64 i, .int .i64 last] w (OutB (fun b => Near L i last → b = true) w) := by
  have HC := Aside0.mk hC
  have HT := Aside0.mk hT
  clear hC hT
  go_enter Tryz.func109, Tryz.ntmps109
  go_wp2_with fail
  go_loopg [7] L.length (fun gg s7 wr => ∃ k : Int, s7 = .int .i64 k ∧ -1 ≤ k ∧ k < (L.length : Int) ∧ (k + 1).toNat ≤ gg ∧ Aside0 (Near L i last → Near L i k) ∧ Aside0 (wr = w))
  case atStart => exact ⟨last, rfl, h0, h1, by omega, ⟨fun h => h⟩, ⟨rfl⟩⟩
  case round =>
    obtain ⟨k, rfl, k0, k1, hg, HG, HW⟩ := hrel
    obtain rfl := HW.out
    by_cases hk : 0 ≤ k
    · by_cases q : k = i
      · have q1 : (k == i) = true := beq_iff_eq.mpr q
        replace q := Aside0.mk q
        go_wp2_with fail
        go_ret
        exact ⟨_, rfl, fun _ => by rfl, Below.refl _ _⟩
      · have q1 : (k == i) = false := beq_eq_false_iff_ne.mpr q
        have HU := Aside0.mk (fun h => (HG.out h).up q)
        obtain ⟨ad, A3, c3, ea, c0, _⟩ := at_T133 HC.out k hk k1
        have HA := Aside0.mk ea
        have hp := HT.out k.toNat (by omega)
        rw [Int.toNat_of_nonneg hk] at hp
        change -1 ≤ (rd_T133 L k).f0 ∧ (rd_T133 L k).f0 < k at hp
        have hp0 := hp.1
        have hp1 := hp.2
        clear hp
        change Aside0 (Near L i last → Near L i (rd_T133 L k).f0) at HU
        generalize (rd_T133 L k).f0 = r at c0 hp0 hp1 HU
        replace q := Aside0.mk q
        subst ea
        go_wp2_with fail
        go_roundg (r + 1).toNat
        case measure => omega
        case rel => exact ⟨r, rfl, hp0, by omega, by omega, HU, ⟨rfl⟩⟩
    · have HU := Aside0.mk (fun h => (HG.out h).end_ hi (by omega))
      go_wp2_with fail
      go_ret
      exact ⟨_, rfl, fun h => absurd (HU.out h) id, Below.refl _ _⟩
/-- So many steps up at most. -/
def Dep (L : List S133) : Nat → Int → Prop
  | 0, k => k < 0
  | m + 1, k => k < 0 ∨ Dep L m (par L k)
theorem Dep.neg {L : List S133} {k : Int} (h : k < 0) (m : Nat) : Dep L m k := by cases m with
  | zero => exact h
  | succ m => exact .inl h
set_option maxHeartbeats 4000000 in
theorem depth_e (A : Option Addr) (c : Nat) (L : List S133) (i : Int) (w : World) (hC : k133.C w A L.length L) (hc : L.length ≤ c) (hT : TreeOK L) (h0 : -1 ≤ i) (h1 : i < (L.length : Int)) : Calls Tryz.prog 113 #[.slice A L.length c, .int .i64 i] w (OutI (fun n => Dep L 4 i → n ≤ 4) w) := by
  have HC := Aside0.mk hC
  have HT := Aside0.mk hT
  clear hC hT
  go_enter Tryz.func113, Tryz.ntmps113
  go_wp2_with fail
  go_loopg [5, 6] L.length (fun gg s5 s6 wr => ∃ (k : Int) (n : Nat), s6 = .int .i64 k ∧ s5 = .int .i64 n ∧ n ≤ 34 ∧ -1 ≤ k ∧ k < (L.length : Int) ∧ (k + 1).toNat ≤ gg ∧ Aside0 (Dep L 4 i → ∃ m, n + m ≤ 4 ∧ Dep L m k) ∧ Aside0 (wr = w))
  case atStart => exact ⟨i, 0, rfl, rfl, by omega, h0, h1, by omega, ⟨fun h => ⟨4, by omega, h⟩⟩, ⟨rfl⟩⟩
  case round =>
    obtain ⟨k, n, rfl, rfl, hn, k0, k1, hg, HG, HW⟩ := hrel
    obtain rfl := HW.out
    by_cases hk : 0 ≤ k
    · by_cases q : n ≤ 33
      · have qz : (n : Int) ≤ 33 := by omega
        have HU : Aside0 (Dep L 4 i → ∃ m, n + 1 + m ≤ 4 ∧ Dep L m (par L k)) := ⟨fun h => by
          obtain ⟨m, h1, h2⟩ := HG.out h
          cases m with
          | zero => exact absurd h2 (by show ¬ k < 0; omega)
          | succ m =>
            rcases h2 with h2 | h2
            · omega
            · exact ⟨m, by omega, h2⟩⟩
        obtain ⟨ad, A3, c3, ea, c0, _⟩ := at_T133 HC.out k hk k1
        have HA := Aside0.mk ea
        have hp := HT.out k.toNat (by omega)
        rw [Int.toNat_of_nonneg hk] at hp
        change -1 ≤ (rd_T133 L k).f0 ∧ (rd_T133 L k).f0 < k at hp
        have hp0 := hp.1
        have hp1 := hp.2
        clear hp
        change Aside0 (Dep L 4 i → ∃ m, n + 1 + m ≤ 4 ∧ Dep L m (rd_T133 L k).f0) at HU
        generalize (rd_T133 L k).f0 = r at c0 hp0 hp1 HU
        subst ea
        go_wp2_with fail
        go_roundg (r + 1).toNat
        case measure => omega
        case rel => exact ⟨r, n + 1, rfl, by go_num, by omega, hp0, by omega, by omega, HU, ⟨rfl⟩⟩
      · have qz : ¬ (n : Int) ≤ 33 := by omega
        have HN : Aside0 (¬ Dep L 4 i) := ⟨fun h => by obtain ⟨m, h1, _⟩ := HG.out h; omega⟩
        go_wp2_with fail
        go_ret
        exact ⟨_, rfl, fun h => absurd h HN.out, Below.refl _ _⟩
    · have HN : Aside0 (Dep L 4 i → (n : Int) ≤ 4) := ⟨fun h => by obtain ⟨m, h1, _⟩ := HG.out h; omega⟩
      go_wp2_with fail
      go_ret
      exact ⟨_, rfl, HN.out, Below.refl _ _⟩
theorem utf8_e (s : ByteArray) (w : World) (hs : s.size ≤ 140737488355328) : Calls Tryz.prog 111 #[.string s] w (OutB (fun b => (bs s).all ink = true → b = true) w) := by
  go_enter Tryz.func111, Tryz.ntmps111
  go_wp2_with fail
  refine (count_x s _ hs).mono ?_
  rintro e w1 ⟨n, rfl, hn, hb⟩
  have HN := Aside0.mk hn.2.2
  have BB := Aside0.mk hb
  clear hn hb
  by_cases q : 0 ≤ n
  · go_wp2_with fail
    go_ret
    exact ⟨_, rfl, fun _ => by rfl, BB.out⟩
  · have NF : Aside0 (¬ (bs s).all ink = true) := ⟨fun h => by have := HN.out h; omega⟩
    go_wp2_with fail
    go_ret
    exact ⟨_, rfl, fun h => absurd h NF.out, BB.out⟩
theorem blankNo_e (s : ByteArray) (w : World) (hs : s.size = 0) : Calls Tryz.prog 90 #[.string s] w fun e w' => e = .returned (.bool true) ∧ Below w.heap.size w w' := by
  have hz : ¬ (0 : Int) < (s.size : Int) := by omega
  go_enter Tryz.func90, Tryz.ntmps90
  go_wp2_with fail
  go_loopg [3] 0 (fun gg s3 wr => s3 = .int .i64 0 ∧ Aside0 (w = wr))
  case atStart => exact ⟨rfl, ⟨rfl⟩⟩
  case round =>
    obtain ⟨rfl, HW⟩ := hrel
    obtain rfl := HW.out
    go_wp2_with fail
    go_ret
    exact ⟨rfl, Below.refl _ _⟩
/-- The one attribute that there may be. -/
def xm : S130 := ⟨⟨#[120, 109, 108, 110, 115]⟩, ⟨#[117, 114, 110, 58, 99, 111, 109, 112, 116, 111, 105, 114, 58, 99, 97, 97, 97]⟩⟩
set_option maxHeartbeats 8000000 in
set_option maxRecDepth 10000 in
theorem attrs_e (A : Option Addr) (c : Nat) (l : List S130) (w : World) (hC : k130.C w A l.length l) (hl : l = [] ∨ l = [xm]) : Calls Tryz.prog 112 #[.slice A l.length c] w fun e w' => e = .returned (.bool true) ∧ Below w.heap.size w w' := by
  rcases hl with rfl | rfl
  · go_enter Tryz.func112, Tryz.ntmps112
    go_wp2_with fail
    go_loopg [3] 0 (fun gg s3 wr => s3 = .int .i64 0 ∧ Aside0 (w = wr))
    case atStart => exact ⟨rfl, ⟨rfl⟩⟩
    case round =>
      obtain ⟨rfl, HW⟩ := hrel
      obtain rfl := HW.out
      go_wp2_with fail
      go_ret
      exact ⟨rfl, Below.refl _ _⟩
  · have HC := Aside0.mk hC
    clear hC
    go_enter Tryz.func112, Tryz.ntmps112
    go_wp2_with fail
    go_loopg [3] 2 (fun gg s3 wr => ∃ n : Nat, n ≤ 1 ∧ 2 - n ≤ gg ∧ s3 = .int .i64 n ∧ Aside0 (Below w.heap.size w wr))
    case atStart => exact ⟨0, by omega, by omega, rfl, ⟨Below.refl _ _⟩⟩
    case round =>
      obtain ⟨n, hn, hg, rfl, BW⟩ := hrel
      by_cases q : n = 0
      · subst q
        obtain ⟨ad, ea, c0, c1⟩ := at_T130 (Kd.C_below HC.out BW.out) 0 (by decide) (by decide)
        have HA := Aside0.mk ea
        subst ea
        change wr.cell? (ad.add (0 * 2)) = some (.string xm.f0) at c0
        change wr.cell? ⟨(ad.add (0 * 2)).block, (ad.add (0 * 2)).off + 1, none⟩ = some (.string xm.f1) at c1
        have e0 : ad.add (0 * 2) = ad := by cases ad; rfl
        rw [e0] at c0 c1
        have N0 := Aside0.mk (show nameF xm.f0 = true by decide +kernel)
        have N1 := Aside0.mk (show (bs xm.f1).all ink = true by decide +kernel)
        have N2 := Aside0.mk (And.intro (show xm.f0.size ≤ 140737488355328 by decide) (show xm.f1.size ≤ 140737488355328 by decide))
        have D1 : Aside0 (∀ W, Below wr.heap.size wr W → W.cell? ⟨ad.block, ad.off + 1, none⟩ = some (.string xm.f1)) := ⟨fun W hW => by
          obtain ⟨ad2, ea2, _, c2⟩ := at_T130 (Kd.C_below HC.out (below_step BW.out hW)) 0 (by decide) (by decide)
          obtain rfl := Option.some.inj ea2
          change W.cell? ⟨(ad.add (0 * 2)).block, (ad.add (0 * 2)).off + 1, none⟩ = some (.string xm.f1) at c2
          rw [e0] at c2
          exact c2⟩
        generalize xm.f0 = t0 at c0 N0 N2
        generalize xm.f1 = t1 at c1 N1 N2 D1
        go_wp2_with fail
        go_loopg [4] 0 (fun gg s4 wq => s4 = .int .i64 0 ∧ Aside0 (wr = wq))
        case atStart => exact ⟨rfl, ⟨rfl⟩⟩
        case round =>
          obtain ⟨rfl, HW⟩ := hrel
          obtain rfl := HW.out
          go_wp2_with fail
          refine (name_e t0 _ N2.out.1 N0.out).mono ?_
          rintro e w1 ⟨rfl, hb⟩
          have hb := hb.below
          have d1 := D1.out _ hb
          have BX := Aside0.mk (below_step BW.out hb)
          clear hb c0 c1
          go_wp2_with fail
          refine (utf8_e t1 _ N2.out.2).mono ?_
          rintro e w2 ⟨b, rfl, hb1, hb⟩
          obtain rfl := hb1 N1.out
          have BY := Aside0.mk (below_step BX.out hb)
          clear hb hb1 d1
          go_wp2_with fail
          go_roundg 1
          case measure => omega
          case rel => exact ⟨1, by omega, by omega, rfl, BY⟩
      · obtain rfl : n = 1 := by omega
        go_wp2_with fail
        go_ret
        exact ⟨rfl, BW.out⟩
def named (s : ByteArray) (c : S148) : Bool := c.f0.toList == s.toList
/-- The child of a model that has a name; an empty one. -/
def childF (l : List S148) (s : ByteArray) : S148 := (l.find? (named s)).getD z148
theorem child_at {l : List S148} {s : ByteArray} {k : Nat} (hk : k < l.length) (h : named s (rd_T148 l (k : Int)) = true) (hb : ∀ j : Nat, j < k → named s (rd_T148 l (j : Int)) = false) : childF l s = rd_T148 l (k : Int) := by
  have e : ∀ j (hj : j < l.length), rd_T148 l (j : Int) = l[j] := fun j hj => by unfold rd_T148; rw [Int.toNat_natCast, List.getD_eq_getElem?_getD, List.getElem?_eq_getElem hj, Option.getD_some]
  unfold childF
  rw [List.find?_eq_some_iff_getElem.2 ⟨h, k, hk, (e k hk).symm, fun j hj => by rw [← e j (by omega)]; simp [hb j hj]⟩]
  rfl
theorem child_no {l : List S148} {s : ByteArray} (hb : ∀ j : Nat, j < l.length → named s (rd_T148 l (j : Int)) = false) : childF l s = z148 := by
  have e : ∀ j (hj : j < l.length), rd_T148 l (j : Int) = l[j] := fun j hj => by unfold rd_T148; rw [Int.toNat_natCast, List.getD_eq_getElem?_getD, List.getElem?_eq_getElem hj, Option.getD_some]
  unfold childF
  rw [List.find?_eq_none.2 (fun x hx => by obtain ⟨j, hj, rfl⟩ := List.getElem_of_mem hx; rw [← e j hj, hb j hj]; decide)]
  rfl
def ChildEnd (l : List S148) (s : ByteArray) (w : World) (e : Ending) (w' : World) : Prop := ∃ y : S148, y = childF l s ∧ e = .returned (.agg #[.string y.f0, .int .i64 y.f1, .int .i64 y.f2, .int .i64 y.f3, .int .i64 y.f4, .int .i64 y.f5]) ∧ Below w.heap.size w w'
theorem child_end {l : List S148} {s : ByteArray} {y : S148} {w W : World} {tmps : Array Value} {p : Nat} (ht : tmps.getD 4 undef = .pointer (some ⟨p, 0, none⟩)) (hy : y = childF l s) (hb : W.heap[p]? = some (.cells #[.string y.f0, .int .i64 y.f1, .int .i64 y.f2, .int .i64 y.f3, .int .i64 y.f4, .int .i64 y.f5] 148 (0, 0))) (hB : Below w.heap.size w W) : bodyPost Tryz.prog Tryz.f94 (ChildEnd l s w) Exit.ret { tmps := tmps, defers := [] } W :=
  bodyPost_ret (results_cell_row (fn := Tryz.f94) (p := 4) (ty := 148) (by rfl) _ _ p 148 #[.string y.f0, .int .i64 y.f1, .int .i64 y.f2, .int .i64 y.f3, .int .i64 y.f4, .int .i64 y.f5] (0, 0) _ ht hb Tryz.underlying148 rfl (by kernel_rfl)) rfl ⟨y, hy, rfl, hB⟩
set_option maxHeartbeats 8000000 in
set_option maxRecDepth 10000 in
theorem child_e (A : Option Addr) (c : Nat) (l : List S148) (s : ByteArray) (w : World) (hC : k148.C w A l.length l) (hn : l.length ≤ 1000) : Calls Tryz.prog 94 #[.slice A l.length c, .string s] w (ChildEnd l s w) := by
  have hu := Tryz.underlying148
  have HN := Aside0.mk hn
  have HC := Aside0.mk hC
  clear hC
  go_enter Tryz.func94, Tryz.ntmps94
  go_wp2_with fail
  obtain ⟨p, hp⟩ : ∃ p, p = w.heap.size := ⟨_, rfl⟩
  have hb0 := blk_new w (.cells #[.string ⟨#[]⟩, .int .i64 0, .int .i64 0, .int .i64 0, .int .i64 0, .int .i64 0] 148)
  have B0 : Below w.heap.size w (w.alloc (.cells #[.string ⟨#[]⟩, .int .i64 0, .int .i64 0, .int .i64 0, .int .i64 0, .int .i64 0] 148)) := below_alloc (Below.refl _ w) _
  have HLO : Aside0 (w.heap.size ≤ p) := ⟨by omega⟩
  rw [← hp] at hb0 ⊢
  clear hp
  revert hb0 B0
  generalize (w.alloc (.cells #[.string ⟨#[]⟩, .int .i64 0, .int .i64 0, .int .i64 0, .int .i64 0, .int .i64 0] 148)) = W0
  intro hb0 B0
  have HB0 := Aside0.mk hb0
  have BW := Aside0.mk B0
  clear hb0 B0
  go_loopg [5] l.length (fun gg s5 wr => ∃ kk : Nat, kk ≤ l.length ∧ l.length - kk ≤ gg ∧ s5 = .int .i64 kk ∧ Aside0 (W0 = wr) ∧ Aside0 (∀ j : Nat, j < kk → named s (rd_T148 l (j : Int)) = false))
  case atStart => exact ⟨0, Nat.zero_le _, by omega, rfl, ⟨rfl⟩, ⟨fun j hj => absurd hj (Nat.not_lt_zero _)⟩⟩
  case round =>
    obtain ⟨kk, hkk, hg, rfl, HW, NO⟩ := hrel
    obtain rfl := HW.out

    have z0 := blk_frozen HB0.out 0
    have z1 := blk_frozen HB0.out 1
    have z2 := blk_frozen HB0.out 2
    have z3 := blk_frozen HB0.out 3
    have z4 := blk_frozen HB0.out 4
    have z5 := blk_frozen HB0.out 5
    have c0 : W0.cell? ⟨p, 0, none⟩ = some (.string ⟨#[]⟩) := (blk_cell HB0.out 0).trans rfl
    have c1 : W0.cell? ⟨p, 1, none⟩ = some (.int .i64 0) := (blk_cell HB0.out 1).trans rfl
    have c2 : W0.cell? ⟨p, 2, none⟩ = some (.int .i64 0) := (blk_cell HB0.out 2).trans rfl
    have c3 : W0.cell? ⟨p, 3, none⟩ = some (.int .i64 0) := (blk_cell HB0.out 3).trans rfl
    have c4 : W0.cell? ⟨p, 4, none⟩ = some (.int .i64 0) := (blk_cell HB0.out 4).trans rfl
    have c5 : W0.cell? ⟨p, 5, none⟩ = some (.int .i64 0) := (blk_cell HB0.out 5).trans rfl
    have SET : Aside0 (∀ y : S148, ((((((W0.setCell ⟨p, 0, none⟩ (.string y.f0)).setCell ⟨p, 1, none⟩ (.int .i64 y.f1)).setCell ⟨p, 2, none⟩ (.int .i64 y.f2)).setCell ⟨p, 3, none⟩ (.int .i64 y.f3)).setCell ⟨p, 4, none⟩ (.int .i64 y.f4)).setCell ⟨p, 5, none⟩ (.int .i64 y.f5)).heap[p]? = some (.cells #[.string y.f0, .int .i64 y.f1, .int .i64 y.f2, .int .i64 y.f3, .int .i64 y.f4, .int .i64 y.f5] 148 (0, 0)) ∧ Below w.heap.size w ((((((W0.setCell ⟨p, 0, none⟩ (.string y.f0)).setCell ⟨p, 1, none⟩ (.int .i64 y.f1)).setCell ⟨p, 2, none⟩ (.int .i64 y.f2)).setCell ⟨p, 3, none⟩ (.int .i64 y.f3)).setCell ⟨p, 4, none⟩ (.int .i64 y.f4)).setCell ⟨p, 5, none⟩ (.int .i64 y.f5))) := ⟨fun y => ⟨(blk_set (blk_set (blk_set (blk_set (blk_set (blk_set HB0.out 0 (.string y.f0)) 1 (.int .i64 y.f1)) 2 (.int .i64 y.f2)) 3 (.int .i64 y.f3)) 4 (.int .i64 y.f4)) 5 (.int .i64 y.f5)), (below_set (below_set (below_set (below_set (below_set (below_set BW.out HLO.out) HLO.out) HLO.out) HLO.out) HLO.out) HLO.out)⟩⟩
    have HCW := Aside0.mk (Kd.C_below HC.out (show Below w.heap.size w W0 from BW.out))
    by_cases hlt : kk < l.length
    · have hltz : (kk : Int) < (l.length : Int) := by omega
      obtain ⟨ad, e1, h0, h1, h2, h3, h4, h5⟩ := at_T148 HCW.out (kk : Int) (by omega) hltz
      have HA := Aside0.mk e1
      subst e1
      rw [Int.toNat_natCast] at h0 h1 h2 h3 h4 h5
      obtain ⟨y, HY⟩ : ∃ y, Aside0 (y = rd_T148 l (kk : Int)) := ⟨_, ⟨rfl⟩⟩
      rw [← HY.out] at h0 h1 h2 h3 h4 h5
      by_cases q : y.f0.toList = s.toList
      · have q1 : (y.f0.toList == s.toList) = true := beq_iff_eq.mpr q
        have HF : Aside0 (y = childF l s) := ⟨by rw [HY.out]; exact (child_at hlt (by unfold named; rw [← HY.out]; exact q1) NO.out).symm⟩
        replace q := Aside0.mk q
        go_wp2_with fail
        exact child_end rfl HF.out (SET.out _).1 (SET.out _).2
      · have q1 : (y.f0.toList == s.toList) = false := beq_eq_false_iff_ne.mpr q
        have HN2 : Aside0 (∀ j : Nat, j < kk + 1 → named s (rd_T148 l (j : Int)) = false) := ⟨fun j hj => by
          by_cases e : j = kk
          · subst e; unfold named; rw [← HY.out]; exact q1
          · exact NO.out j (by omega)⟩
        replace q := Aside0.mk q
        go_wp2_with fail
        go_roundg (l.length - (kk + 1))
        case measure => omega
        case rel => exact ⟨kk + 1, by omega, by omega, by go_num, ⟨rfl⟩, HN2⟩
    · have hltz : ¬ (kk : Int) < (l.length : Int) := by omega
      have HF : Aside0 (z148 = childF l s) := ⟨(child_no (fun j hj => NO.out j (by omega))).symm⟩
      go_wp2_with fail
      exact child_end (y := z148) rfl HF.out (SET.out z148).1 (SET.out z148).2
end Go.Proofs.YthapknnppabdaaaGreat.MQ
