/- container/heap's up, walked over a pile. -/
import Derived.Test.YthjcdjanadeobaaHSwap
namespace Go.Proofs.Ythjcdjanadeobaa.MH
open Go.RowKit Go.Proofs.YthjcdjanadeobaaW.PrintWords Go.Proofs.YthjcdjanadeobaaW.PrintLast Go.Proofs.YthjcdjanadeobaaW.PrintMore Go.Proofs.Ythjcdjanadeobaa.Heap
set_option linter.unusedVariables false
set_option linter.unusedSimpArgs false

/-- A pile with a row. -/
structure Pile (w : World) (pb mb sb cap : Nat) (l : List Heap.Item) : Prop where
  head : HeadW w pb mb (.slice (some ⟨sb, 0, none⟩) l.length cap)
  row : RowW w sb cap l
  map : ∃ f, MapIs w mb f ∧ Pl f l
  n1 : pb ≠ sb
  n2 : mb ≠ sb
  n3 : pb ≠ mb
def Its (mb sb : Nat) (b : Nat) : Prop := b = sb ∨ b = mb
theorem Pile.keep {w w' : World} {pb mb sb cap : Nat} {l : List Heap.Item} {S : Nat → Prop} (h : Pile w pb mb sb cap l) (hf : Foot S w w') (h1 : ¬ S pb) (h2 : ¬ S mb) (h3 : ¬ S sb) : Pile w' pb mb sb cap l := by
  obtain ⟨a, ⟨cur, b, r⟩, ⟨f, ⟨es, cl, m, e⟩, p⟩, n1, n2, n3⟩ := h
  exact ⟨hf.blk a h1, ⟨cur, hf.blk b h3, r⟩, ⟨f, ⟨es, cl, hf.blk m h2, e⟩, p⟩, n1, n2, n3⟩
theorem Pile.still {w w' : World} {pb mb sb cap : Nat} {l : List Heap.Item} (h : Pile w pb mb sb cap l) (hb : Below w.heap.size w w') : Pile w' pb mb sb cap l := h.keep (Foot.below (S := fun _ => False) hb) (fun h => h) (fun h => h) (fun h => h)
theorem pile_less {w : World} {pb mb sb cap : Nat} {l : List Heap.Item} (h : Pile w pb mb sb cap l) (i k : Nat) (hi : i < l.length) (hk : k < l.length) :
    Calls Try.prog 45 #[.pointer (some ⟨pb, 0, none⟩), .int .i64 i, .int .i64 k] w fun e w' => e = .returned (.bool (less (at_ l i) (at_ l k))) ∧ Pile w' pb mb sb cap l ∧ Foot (Its mb sb) w w' :=
  (less45 pb mb sb cap i k l w h.head h.row hi hk).mono fun e w' ⟨a, b⟩ => ⟨a, h.still b, Foot.below b⟩
theorem pile_swap {w : World} {pb mb sb cap : Nat} {l : List Heap.Item} (h : Pile w pb mb sb cap l) (i k : Nat) (hi : i < l.length) (hk : k < l.length) (hne : i ≠ k) :
    Calls Try.prog 48 #[.pointer (some ⟨pb, 0, none⟩), .int .i64 i, .int .i64 k] w fun e w' => e = .returned (.tuple #[]) ∧ Pile w' pb mb sb cap (Heap.swap l i k) ∧ Foot (Its mb sb) w w' := by
  obtain ⟨f, hm, hp⟩ := h.map
  exact (swap48 pb mb sb cap i k l f w h.head h.row hm hp hi hk hne h.n1 h.n2 h.n3).mono fun e w' ⟨a, b, c, d, g⟩ => ⟨a, ⟨by rw [swap_len]; exact b, c, d, h.n1, h.n2, h.n3⟩, g⟩
theorem pile_size {w : World} {pb mb sb cap : Nat} {l : List Heap.Item} (h : Pile w pb mb sb cap l) : l.length ≤ 1000000000 := h.row.size
theorem up_succ (f : Nat) (l : List Heap.Item) (j : Nat) : up (f + 1) l j = if j = 0 then l else if less (at_ l j) (at_ l ((j - 1) / 2)) = true then up f (Heap.swap l ((j - 1) / 2) j) ((j - 1) / 2) else l := rfl
set_option maxHeartbeats 8000000 in
set_option maxRecDepth 100000 in
theorem up28 (pb mb sb cap F j : Nat) (l : List Heap.Item) (w : World) (h : Pile w pb mb sb cap l) (hj : j < l.length) (hF : j ≤ F) :
    Calls Try.prog 28 #[.iface 47 (.pointer (some ⟨pb, 0, none⟩)), .int .i64 j] w fun e w' => e = .returned (.tuple #[]) ∧ Pile w' pb mb sb cap (up F l j) ∧ Foot (Its mb sb) w w' := by
  have hm1 : ∀ w : World, (method 191 47 (.pointer (some ⟨pb, 0, none⟩)) "Less").run Try.prog w = .ok (45, .pointer (some ⟨pb, 0, none⟩)) w := fun _ => by kernel_rfl
  have hm2 : ∀ w : World, (method 191 47 (.pointer (some ⟨pb, 0, none⟩)) "Swap").run Try.prog w = .ok (48, .pointer (some ⟨pb, 0, none⟩)) w := fun _ => by kernel_rfl
  have eg1 : ∀ args w, (callFunc 45 args).run Try.prog w = .ok (.enter 45 args) w := enters_of Try.func45 (by kernel_rfl) rfl
  have eg2 : ∀ args w, (callFunc 48 args).run Try.prog w = .ok (.enter 48 args) w := enters_of Try.func48 (by kernel_rfl) rfl
  have HZ := Aside0.mk h
  have HS := Aside0.mk (pile_size h)
  have HJ := Aside0.mk (And.intro hj hF)
  clear h hj hF
  go_enter Try.func28, Try.ntmps28
  go_wp2
  go_loopg [1] j (fun gg s1 wr => ∃ (jj fu : Nat) (l2 : List Heap.Item), s1 = .int .i64 jj ∧ jj < l2.length ∧ l2.length = l.length ∧ jj ≤ gg ∧ jj ≤ fu ∧ Aside0 (up F l j = up fu l2 jj) ∧ Aside0 (Pile wr pb mb sb cap l2) ∧ Aside0 (Foot (Its mb sb) w wr))
  case atStart => exact ⟨j, F, l, rfl, HJ.out.1, rfl, Nat.le_refl _, HJ.out.2, ⟨rfl⟩, HZ, ⟨Foot.refl _ _⟩⟩
  case round =>
    obtain ⟨jj, fu, l2, rfl, hjl, hll, hgg, hfu, HU, HP, HF⟩ := hrel
    have hb : jj ≤ 1000000000 := by have := HS.out; omega
    by_cases c0 : jj = 0
    · subst c0
      have e1 : wrap64 (Int.tdiv (wrap64 (((0 : Nat) : Int) - 1)) 2) = 0 := by decide +kernel
      have hz : up fu l2 0 = l2 := by cases fu <;> simp [up]
      have HU2 := Aside0.mk (HU.out.trans hz)
      simp only [Int.natCast_zero] at e1 ⊢
      go_wp2
      go_end0
      exact ⟨rfl, by rw [HU2.out]; exact HP.out, HF.out⟩
    · obtain ⟨p, hp⟩ : ∃ p, p = (jj - 1) / 2 := ⟨_, rfl⟩
      have e1 : wrap64 (Int.tdiv (wrap64 ((jj : Int) - 1)) 2) = (p : Int) := by
        rw [w64_in ((jj : Int) - 1) ⟨by omega, by omega⟩, Int.tdiv_eq_ediv_of_nonneg (by omega), w64_in _ ⟨by omega, by omega⟩]
        omega
      have e2 : ((jj : Int) - 1) / 2 = (p : Int) := by omega
      have q1 : ((p : Int) == (jj : Int)) = false := beq_eq_false_iff_ne.2 (by omega)
      have hpj : p < l2.length := by omega
      obtain ⟨fu', rfl⟩ : ∃ q, fu = q + 1 := ⟨fu - 1, by omega⟩
      have hup := HU.out
      rw [up_succ, if_neg c0, ← hp] at hup
      have HLS := Aside0.mk (pile_less HP.out jj p hjl hpj)
      cases hq : less (at_ l2 jj) (at_ l2 p) with
      | false =>
        rw [hq, if_neg (by simp)] at hup
        rw [hq] at HLS
        have HU2 := Aside0.mk hup
        clear hup hq hp
        go_wp2_with fail
        refine HLS.out.mono ?_
        rintro e w' ⟨rfl, hpile, hfoot⟩
        have HP2 := Aside0.mk hpile
        have HF2 := Aside0.mk (HF.out.trans hfoot (fun _ _ h => h))
        clear hpile hfoot
        go_wp2_with fail
        go_end0
        exact ⟨rfl, by rw [HU2.out]; exact HP2.out, HF2.out⟩
      | true =>
        rw [hq, if_pos rfl] at hup
        rw [hq] at HLS
        have HU2 := Aside0.mk hup
        have hpne : p ≠ jj := by omega
        have hple : p ≤ fu' := by omega
        have hsl := swap_len l2 p jj
        clear hup hq hp
        go_wp2_with fail
        refine HLS.out.mono ?_
        rintro e w' ⟨rfl, hpile, hfoot⟩
        have HP2 := Aside0.mk hpile
        have HF2 := Aside0.mk (HF.out.trans hfoot (fun _ _ h => h))
        clear hpile hfoot
        go_wp2_with fail
        refine (pile_swap HP2.out p jj hpj hjl hpne).mono ?_
        rintro e w'' ⟨rfl, hpile, hfoot⟩
        have HP3 := Aside0.mk hpile
        have HF3 := Aside0.mk (HF2.out.trans hfoot (fun _ _ h => h))
        clear hpile hfoot
        go_wp2_with fail
        go_roundg p
        case measure => omega
        case rel => exact ⟨p, fu', Heap.swap l2 p jj, rfl, by omega, by omega, Nat.le_refl _, hple, HU2, HP3, HF3⟩
end Go.Proofs.Ythjcdjanadeobaa.MH
