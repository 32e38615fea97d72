/- ResidueBack: part 16 of its proof. -/
import Derived.Test.YthapknnppabdaaaGreatZ15
import Derived.Deep.Upon
namespace Go.Proofs.YthapknnppabdaaaGreat.MQ
open Go.RowKit Go.Proofs.YthapknnppabdaaaGreatW.PrintWords Go.Proofs.YthapknnppabdaaaGreatW.PrintLast Go.Proofs.YthapknnppabdaaaGreatW.PrintMore
set_option linter.unusedVariables false
set_option linter.unusedSimpArgs false
theorem nums_bytes (s : ByteArray) : strOfNums (bytesOf s) = s := by
  apply bs_inj
  rw [bs_nums _ (fun x hx => by
    unfold bytesOf at hx
    obtain ⟨b, _, rfl⟩ := List.mem_map.1 hx
    have := b.toNat_lt
    omega)]
  rfl
def ElemOK (y : S50) : Prop := chkF y.f0 y.f1 = 0
theorem fmt_all : (formatsL.all fun y => decide (2 ≤ y.f0) && decide (y.f0 ≤ 128) && decide (y.f0 ≠ 65) && decide (y.f3 ≤ 999) && decide (0 ≤ y.f2) && decide (y.f2 ≤ 4) && decide (y.f2 = 0 ∨ y.f3 < 10 ^ y.f2.toNat)) = true := by decide +kernel
theorem fmt_found {no : Int} (h : fmtB no = true) : fmtF no ∈ formatsL ∧ (fmtF no).f0 = no := by
  unfold fmtB at h
  unfold fmtF
  cases hf : formatsL.find? (fun y => y.f0 == no) with
  | none => rw [hf] at h; cases h
  | some y =>
    rw [Option.getD_some]
    exact ⟨List.mem_of_find?_eq_some hf, beq_iff_eq.1 (List.find?_some (p := fun y : S114 => y.f0 == no) hf)⟩
/-- What is known of an element that may be. -/
structure ElemIs (y : S50) : Prop where
  fb : fmtB y.f0 = true
  lo : 2 ≤ y.f0
  hi : y.f0 ≤ 128
  no : y.f0 ≠ 65
  l1 : 1 ≤ y.f1.length
  l2 : (y.f1.length : Int) ≤ (fmtF y.f0).f3
  l3 : (fmtF y.f0).f3 ≤ 999
  d0 : 0 ≤ (fmtF y.f0).f2
  d4 : (fmtF y.f0).f2 ≤ 4
  dm : (fmtF y.f0).f2 = 0 ∨ (fmtF y.f0).f3 < 10 ^ (fmtF y.f0).f2.toNat
theorem elem_is {y : S50} (h : ElemOK y) : ElemIs y := by
  unfold ElemOK chkF at h
  by_cases hb : fmtB y.f0 = true
  · rw [if_pos hb] at h
    obtain ⟨hm, hn⟩ := fmt_found hb
    have ha := List.all_eq_true.1 fmt_all _ hm
    simp only [Bool.and_eq_true, decide_eq_true_eq] at ha
    obtain ⟨⟨⟨⟨⟨⟨a1, a2⟩, a3⟩, a4⟩, a5⟩, a6⟩, a7⟩ := ha
    rw [hn] at a1 a2 a3
    split at h
    · cases h
    · split at h
      · cases h
      · split at h
        · cases h
        · exact ⟨hb, a1, a2, a3, by omega, by omega, a4, a5, a6, a7⟩
  · rw [if_neg hb] at h; cases h
theorem chk_ok {no k d m : Int} {s : ByteArray} (h : fmtB no = true ∧ fmtF no = ⟨no, k, d, m⟩) (h1 : d = 0 → (s.size : Int) = m) (h2 : 1 ≤ s.size) (h3 : (s.size : Int) ≤ m) (h4 : typedF k s = true) : ElemOK ⟨no, bytesOf s⟩ := by
  unfold ElemOK chkF
  dsimp only
  rw [h.2]
  dsimp only
  rw [if_pos h.1, nums_bytes, bytesOf_length, if_neg (fun q => q.2 (h1 q.1)), if_neg (by omega), if_neg (by omega), if_pos h4]
/-- Elements one behind the other, each as it may be, none beyond top. -/
structure Els (top : Int) (L : List S50) : Prop where
  asc : L.Pairwise (fun a b => a.f0 < b.f0)
  each : ∀ y ∈ L, ElemOK y ∧ y.f0 ≤ top ∧ spareF y.f0 = false
  len : (L.length : Int) ≤ top
theorem Els.up {a b : Int} {L : List S50} (h : Els a L) (hb : a ≤ b) : Els b L := ⟨h.asc, fun y hy => ⟨(h.each y hy).1, by have := (h.each y hy).2.1; omega, (h.each y hy).2.2⟩, by have := h.len; omega⟩
theorem Els.step {top no : Int} {s : ByteArray} {L : List S50} (h : Els top L) (hn : top < no) (hs : spareF no = false) (he : s.toList ≠ [] → ElemOK ⟨no, bytesOf s⟩) : Els no (L ++ optE no s) := by
  unfold optE
  split
  · rw [List.append_nil]; exact h.up (by omega)
  · rename_i q
    refine ⟨List.pairwise_append.2 ⟨h.asc, List.pairwise_singleton _ _, fun a ha b hb => ?_⟩, fun y hy => ?_, ?_⟩
    · rw [List.mem_singleton] at hb
      have := (h.each a ha).2.1
      rw [hb]; show a.f0 < no; omega
    · rcases List.mem_append.1 hy with hy | hy
      · exact ⟨(h.each y hy).1, by have := (h.each y hy).2.1; omega, (h.each y hy).2.2⟩
      · rw [List.mem_singleton] at hy
        rw [hy]
        exact ⟨he q, Int.le_refl _, hs⟩
    · rw [List.length_append]
      show ((L.length + 1 : Nat) : Int) ≤ no
      have := h.len
      omega
/-- The maker in the block t holds such elements. -/
def EM (w0 : World) (t : Nat) (top : Int) (W : World) : Prop := ∃ L zs v, TM w0 t L zs v W ∧ Els top L
theorem EM.below {w0 : World} {t : Nat} {top : Int} {W W' : World} (h : EM w0 t top W) (hb : Below W.heap.size W W') : EM w0 t top W' := by
  obtain ⟨L, zs, v, h1, h2⟩ := h
  exact ⟨L, zs, v, h1.below hb, h2⟩
theorem EM.up {w0 : World} {t : Nat} {a b : Int} {W : World} (h : EM w0 t a W) (hb : a ≤ b) : EM w0 t b W := by
  obtain ⟨L, zs, v, h1, h2⟩ := h
  exact ⟨L, zs, v, h1, h2.up hb⟩
def EMEnd (w0 : World) (t : Nat) (top : Int) (e : Ending) (w' : World) : Prop := e = .returned (.tuple #[]) ∧ EM w0 t top w'
theorem someE_e (w0 W : World) (t : Nat) (top no : Int) (s : ByteArray) (h : EM w0 t top W) (hn : top < no ∧ no ≤ 1000 ∧ spareF no = false ∧ s.size ≤ 140737488355328) (he : s.toList ≠ [] → ElemOK ⟨no, bytesOf s⟩) : Calls Tryz.prog 100 #[.pointer (some ⟨t, 0, none⟩), .int .i64 no, .string s] W (EMEnd w0 t no) := by
  obtain ⟨L, zs, v, h1, h2⟩ := h
  refine (someM_e w0 W t L zs v no s h1 (by have := h2.len; omega) hn.2.2.2).mono ?_
  rintro e w' ⟨zs', v', rfl, h3⟩
  exact ⟨rfl, _, zs', v', h3, h2.step hn.1 hn.2.2.1 he⟩
theorem digE_e (w0 W : World) (t : Nat) (top no v width : Int) (h : EM w0 t top W) (hn : top < no ∧ no ≤ 1000 ∧ spareF no = false) (h0 : 0 ≤ v) (h1 : v < 18446744073709551616) (hw : 1 ≤ width) (hw' : width ≤ 20) (he : ElemOK ⟨no, bytesOf (digS v width)⟩) (hz : (digS v width).size ≤ 140737488355328) : Calls Tryz.prog 101 #[.pointer (some ⟨t, 0, none⟩), .int .i64 no, .int .u64 v, .int .i64 width] W (EMEnd w0 t no) := by
  have HT := Aside0.mk h
  have HN := Aside0.mk (And.intro hn (And.intro he hz))
  have HD := Aside0.mk (digits_e v width W h0 h1 hw hw')
  clear h hn he hz h0 h1 hw hw'
  go_enter Tryz.func101, Tryz.ntmps101
  go_wp2_with fail
  refine HD.out.mono ?_
  rintro e w1 ⟨rfl, hB⟩
  have H1 := Aside0.mk (HT.out.below hB)
  clear hB HD
  go_wp2_with fail
  refine (someE_e w0 _ t top no (digS v width) H1.out ⟨HN.out.1.1, HN.out.1.2.1, HN.out.1.2.2, HN.out.2.2⟩ (fun _ => HN.out.2.1)).mono ?_
  rintro e w2 ⟨rfl, h2⟩
  have H2 := Aside0.mk h2
  clear h2
  go_wp2_with fail
  (try simp only [Exit.inBlock, Exit.then]); refine bodyPost_end (results_none rfl _ _ _) rfl ?_
  exact ⟨rfl, H2.out⟩
theorem num_typed {s : ByteArray} {a b : Int} (h : rightF s a b = true) : typedF 1 s = true := by
  unfold typedF
  rw [if_pos rfl]
  exact right_iff.2 ⟨(right_iff.1 h).1, by omega, Int.le_refl _⟩
theorem aln_typed {s : ByteArray} {a b : Int} (h : alnF s a b = true) : typedF 2 s = true := by
  unfold typedF
  rw [if_neg (by decide), if_pos rfl]
  unfold alnF at h ⊢
  simp only [Bool.and_eq_true, decide_eq_true_eq] at h ⊢
  exact ⟨⟨h.1.1, by omega⟩, Int.le_refl _⟩
theorem aln_size {s : ByteArray} {a b : Int} (h : alnF s a b = true) : a ≤ (s.size : Int) ∧ (s.size : Int) ≤ b := by
  unfold alnF at h
  simp only [Bool.and_eq_true, decide_eq_true_eq] at h
  exact ⟨h.1.2, h.2⟩
theorem ink_typed {s : ByteArray} (h : (bs s).all ink = true) : typedF 3 s = true := by
  unfold typedF
  rw [if_neg (by decide), if_neg (by decide), if_pos rfl]
  cases hs : s.toList.isEmpty with
  | true => rfl
  | false =>
    have : s.size ≠ 0 := fun q => by rw [(empty_iff s).2 q] at hs; cases hs
    show ansF s s.size = true
    unfold ansF
    rw [h, decide_eq_true (by omega), decide_eq_true (Int.le_refl _)]; rfl
theorem dig_is {v width : Int} (h0 : 0 ≤ v) (n : Nat) (hw : width = ((n + 1 : Nat) : Int)) (hn : n < 19) (h1 : v < 10 ^ (n + 1)) (h2 : v < 18446744073709551616) : rightF (digS v width) 1 width = true ∧ ((digS v width).size : Int) = width := by
  obtain ⟨_, d, z⟩ := dec_is h0 n (by omega) h1 h2
  have hle : ((decS v).size : Int) ≤ width := by omega
  have hp := pad_dec (width.toNat - (decS v).size) d
  have hsz := pad_size (width.toNat - (decS v).size) (decS v)
  unfold digS
  rw [if_pos hle]
  have e : ((padS (width.toNat - (decS v).size) (decS v)).size : Int) = width := by rw [hsz]; omega
  exact ⟨right_iff.2 ⟨hp.dg, by rw [e]; omega, by rw [e]; exact Int.le_refl _⟩, e⟩
theorem fmts : (fmtB 2 = true ∧ fmtF 2 = ⟨2, 1, 2, 19⟩) ∧ (fmtB 4 = true ∧ fmtF 4 = ⟨4, 1, 0, 12⟩) ∧ (fmtB 11 = true ∧ fmtF 11 = ⟨11, 1, 0, 6⟩) ∧ (fmtB 12 = true ∧ fmtF 12 = ⟨12, 1, 0, 14⟩) ∧ (fmtB 22 = true ∧ fmtF 22 = ⟨22, 1, 0, 3⟩) ∧ (fmtB 25 = true ∧ fmtF 25 = ⟨25, 1, 0, 4⟩) ∧ (fmtB 32 = true ∧ fmtF 32 = ⟨32, 1, 2, 11⟩) ∧ (fmtB 37 = true ∧ fmtF 37 = ⟨37, 2, 0, 12⟩) ∧ (fmtB 38 = true ∧ fmtF 38 = ⟨38, 2, 0, 6⟩) ∧ (fmtB 39 = true ∧ fmtF 39 = ⟨39, 1, 0, 3⟩) ∧ (fmtB 41 = true ∧ fmtF 41 = ⟨41, 3, 0, 8⟩) ∧ (fmtB 42 = true ∧ fmtF 42 = ⟨42, 3, 0, 15⟩) ∧ (fmtB 48 = true ∧ fmtF 48 = ⟨48, 3, 3, 8⟩) ∧ (fmtB 49 = true ∧ fmtF 49 = ⟨49, 1, 0, 3⟩) ∧ (fmtB 55 = true ∧ fmtF 55 = ⟨55, 4, 3, 255⟩) ∧ (fmtB 56 = true ∧ fmtF 56 = ⟨56, 1, 0, 20⟩) := by
  refine ⟨⟨?_, ?_⟩, ⟨?_, ?_⟩, ⟨?_, ?_⟩, ⟨?_, ?_⟩, ⟨?_, ?_⟩, ⟨?_, ?_⟩, ⟨?_, ?_⟩, ⟨?_, ?_⟩, ⟨?_, ?_⟩, ⟨?_, ?_⟩, ⟨?_, ?_⟩, ⟨?_, ?_⟩, ⟨?_, ?_⟩, ⟨?_, ?_⟩, ⟨?_, ?_⟩, ⟨?_, ?_⟩⟩ <;> kernel_rfl
end Go.Proofs.YthapknnppabdaaaGreat.MQ
namespace Go.Proofs.YthapknnppabdaaaGreat.MQ
open Go.RowKit Go.Proofs.YthapknnppabdaaaGreatW.PrintWords Go.Proofs.YthapknnppabdaaaGreatW.PrintLast Go.Proofs.YthapknnppabdaaaGreatW.PrintMore
attribute [local go_sem] max2_int min2_int max_two min_two max_three min_three max_four min_four
set_option linter.unusedVariables false
set_option linter.unusedSimpArgs false

/-- What bits may say of a message. -/
structure BGood (x : S29) : Prop where
  inn : MIn x
  time : timeF x.f2 = true
  acq : rightF x.f3 1 11 = true
  pan : x.f4.toList ≠ [] → rightF x.f4 12 19 = true
  cur : x.f5.toList ≠ [] → rightF x.f5 3 3 = true
  rrn : x.f7.toList ≠ [] → alnF x.f7 12 12 = true
  mer : x.f8.toList ≠ [] → PlainA x.f8 1 15
  ter : x.f9.toList ≠ [] → PlainA x.f9 1 8
  app : x.f10.toList ≠ [] → alnF x.f10 6 6 = true
  act : x.f12.toList ≠ [] → (wordsF x.f12).2.2 = true
  rea : x.f13.toList ≠ [] → rightF x.f13 4 4 = true
  org : x.f14.f1.toList ≠ [] → timeF x.f14.f1 = true
  key : x.f16.toList ≠ [] → hexE x.f16 = 0 ∧ x.f16.size = 8
  tag : tagsLen x.f15 ≤ 255
theorem num_ok {no d m a b : Int} {s : ByteArray} (hf : fmtB no = true ∧ fmtF no = ⟨no, 1, d, m⟩) (h : rightF s a b = true) (ha : 1 ≤ a) (hb : b ≤ m) (hd : d = 0 → a = m) : ElemOK ⟨no, bytesOf s⟩ ∧ s.size ≤ 140737488355328 ∨ 1000 < m := by
  have := (right_iff.1 h).2
  by_cases hm : m ≤ 1000
  · exact .inl ⟨chk_ok hf (fun q => by have := hd q; omega) (by omega) (by omega) (num_typed h), by omega⟩
  · exact .inr (by omega)
theorem aln_ok {no m : Int} {s : ByteArray} (hf : fmtB no = true ∧ fmtF no = ⟨no, 2, 0, m⟩) (h : alnF s m m = true) (hm : 1 ≤ m) : ElemOK ⟨no, bytesOf s⟩ := by
  have := aln_size h
  exact chk_ok hf (fun _ => by omega) (by omega) (by omega) (aln_typed h)
theorem blank_size {s : ByteArray} {n : Int} (h : s.toList ≠ [] → (s.size : Int) ≤ n) (h0 : 0 ≤ n) : (s.size : Int) ≤ n := by
  by_cases q : s.toList = []
  · have := (empty_iff s).1 q; omega
  · exact h q
structure BSize (x : S29) : Prop where
  z2 : x.f2.size ≤ 140737488355328
  z3 : x.f3.size ≤ 140737488355328
  z4 : x.f4.size ≤ 140737488355328
  z5 : x.f5.size ≤ 140737488355328
  z7 : x.f7.size ≤ 140737488355328
  z8 : x.f8.size ≤ 140737488355328
  z9 : x.f9.size ≤ 140737488355328
  z10 : x.f10.size ≤ 140737488355328
  z12 : x.f12.size ≤ 140737488355328
  z13 : x.f13.size ≤ 140737488355328
  z14 : (x.f14.f1.size : Int) ≤ 14
  z16 : x.f16.size ≤ 140737488355328
theorem bsize {x : S29} (h : BGood x) : BSize x := by
  have R : ∀ {s : ByteArray} {a b : Int}, b ≤ 1000 → rightF s a b = true → (s.size : Int) ≤ 1000 := fun hb h => by have := (right_iff.1 h).2.2; omega
  have A : ∀ {s : ByteArray} {a b : Int}, b ≤ 1000 → alnF s a b = true → (s.size : Int) ≤ 1000 := fun hb h => by have := (aln_size h).2; omega
  have P : ∀ {s : ByteArray} {a b : Int}, b ≤ 1000 → PlainA s a b → (s.size : Int) ≤ 1000 := fun hb h => by have := h.2.2.1; omega
  have e4 := blank_size (n := 1000) (fun q => R (by decide) (h.pan q)) (by decide)
  have e5 := blank_size (n := 1000) (fun q => R (by decide) (h.cur q)) (by decide)
  have e7 := blank_size (n := 1000) (fun q => A (by decide) (h.rrn q)) (by decide)
  have e8 := blank_size (n := 1000) (fun q => P (by decide) (h.mer q)) (by decide)
  have e9 := blank_size (n := 1000) (fun q => P (by decide) (h.ter q)) (by decide)
  have e10 := blank_size (n := 1000) (fun q => A (by decide) (h.app q)) (by decide)
  have e12 := blank_size (n := 1000) (fun q => R (by decide) ((words_is x.f12).2.yes (h.act q)).2.2) (by decide)
  have e13 := blank_size (n := 1000) (fun q => R (by decide) (h.rea q)) (by decide)
  have e14 := blank_size (n := 14) (fun q => (right_iff.1 (timeF_right (h.org q))).2.2) (by decide)
  have e16 := blank_size (n := 1000) (fun q => by have := (h.key q).2; omega) (by decide)
  have e2 := R (by decide) (timeF_right h.time)
  have e3 := R (by decide) h.acq
  exact ⟨by omega, by omega, by omega, by omega, by omega, by omega, by omega, by omega, by omega, by omega, e14, by omega⟩
def ElsEnd (w : World) (e : Ending) (w' : World) : Prop := ∃ (L : List S50) (A : Option Addr) (c : Nat), e = .returned (.slice A L.length c) ∧ Els 56 L ∧ L.length ≤ c ∧ k50.C w' A L.length L ∧ Below w.heap.size w w'
theorem EM.bel {w0 : World} {t : Nat} {top : Int} {W : World} (h : EM w0 t top W) : Below w0.heap.size w0 W := by obtain ⟨_, _, _, h1, _⟩ := h; exact h1.bel
theorem els_end {w w0 W : World} {t : Nat} {L : List S50} {zs : List (List Value)} {v : Value} (h : TM w0 t L zs v W) (hE : Els 56 L) (hb : Below w.heap.size w W) : ElsEnd w (.returned v) W := by
  obtain ⟨A, c, e, hc, hC⟩ := Kd.R_reads h.row
  have hl := h.len
  rw [hl] at e hc hC
  refine ⟨L, A, c, by rw [e], hE, hc, raw_back (d := k50) hC rfl (fun j x z hx hz => h.con j x z hx hz W ⟨h.bel, fun _ _ _ hk => hk⟩), hb⟩
set_option maxHeartbeats 32000000 in
set_option maxRecDepth 100000 in
theorem elements_e (x : S29) (A16 : Option Addr) (c16 : Nat) (A19 : Option Addr) (c19 : Nat) (A20 : Option Addr) (c20 : Nat) (w : World) (hx : BGood x) (l16 : x.f15.length ≤ c16) (g16 : k46.C w A16 x.f15.length x.f15) :
    Calls Tryz.prog 61 #[.agg (rowM x (.slice A16 x.f15.length c16) (.slice A19 x.f18.length c19) (.slice A20 x.f19.length c20))] w (ElsEnd w) := by
  have HX := Aside0.mk hx
  have HZ := Aside0.mk (bsize hx)
  have HG := Aside0.mk (And.intro l16 g16)
  obtain ⟨fm2, fm4, fm11, fm12, fm22, fm25, fm32, fm37, fm38, fm39, fm41, fm42, fm48, fm49, fm55, fm56⟩ := fmts
  have K2 : Aside0 (x.f4.toList ≠ [] → ElemOK ⟨2, bytesOf x.f4⟩) := ⟨fun q => ((num_ok fm2 (hx.pan q) (by decide) (by decide) (by decide)).resolve_right (by decide)).1⟩
  have K12 : Aside0 (x.f2.toList ≠ [] → ElemOK ⟨12, bytesOf x.f2⟩) := ⟨fun q => ((num_ok fm12 (timeF_right hx.time) (by decide) (by decide) (by decide)).resolve_right (by decide)).1⟩
  have K25 : Aside0 (x.f13.toList ≠ [] → ElemOK ⟨25, bytesOf x.f13⟩) := ⟨fun q => ((num_ok fm25 (hx.rea q) (by decide) (by decide) (by decide)).resolve_right (by decide)).1⟩
  have K32 : Aside0 (x.f3.toList ≠ [] → ElemOK ⟨32, bytesOf x.f3⟩) := ⟨fun q => ((num_ok fm32 hx.acq (by decide) (by decide) (by decide)).resolve_right (by decide)).1⟩
  have K37 : Aside0 (x.f7.toList ≠ [] → ElemOK ⟨37, bytesOf x.f7⟩) := ⟨fun q => aln_ok fm37 (hx.rrn q) (by decide)⟩
  have K38 : Aside0 (x.f10.toList ≠ [] → ElemOK ⟨38, bytesOf x.f10⟩) := ⟨fun q => aln_ok fm38 (hx.app q) (by decide)⟩
  have K39 : Aside0 (x.f12.toList ≠ [] → ElemOK ⟨39, bytesOf x.f12⟩) := ⟨fun q => ((num_ok fm39 ((words_is x.f12).2.yes (hx.act q)).2.2 (by decide) (by decide) (by decide)).resolve_right (by decide)).1⟩
  have K41 : Aside0 (∀ t, WideOf x.f9 8 t → (t.toList ≠ [] → ElemOK ⟨41, bytesOf t⟩) ∧ t.size ≤ 140737488355328) := ⟨fun t ht => by
    by_cases q : x.f9.toList = []
    · have e := ht.none q
      rw [e]
      exact ⟨fun h => absurd q h, by have := (empty_iff x.f9).1 q; omega⟩
    · have hp := hx.ter q
      have hs := ht.full q hp.2.2.1
      exact ⟨fun _ => chk_ok fm41 (fun _ => hs) (by omega) (by omega) (ink_typed (ht.ink hp.1)), by omega⟩⟩
  have K42 : Aside0 (∀ t, WideOf x.f8 15 t → (t.toList ≠ [] → ElemOK ⟨42, bytesOf t⟩) ∧ t.size ≤ 140737488355328) := ⟨fun t ht => by
    by_cases q : x.f8.toList = []
    · have e := ht.none q
      rw [e]
      exact ⟨fun h => absurd q h, by have := (empty_iff x.f8).1 q; omega⟩
    · have hp := hx.mer q
      have hs := ht.full q hp.2.2.1
      exact ⟨fun _ => chk_ok fm42 (fun _ => hs) (by omega) (by omega) (ink_typed (ht.ink hp.1)), by omega⟩⟩
  have K48 : Aside0 (x.f16.toList ≠ [] → ElemOK ⟨48, bytesOf x.f16⟩) := ⟨fun q => by
    obtain ⟨h1, h2⟩ := hx.key q
    exact chk_ok fm48 (fun h => absurd h (by decide)) (by omega) (by omega) (ink_typed (hex_ink h1))⟩
  have K49 : Aside0 (x.f5.toList ≠ [] → ElemOK ⟨49, bytesOf x.f5⟩) := ⟨fun q => ((num_ok fm49 (hx.cur q) (by decide) (by decide) (by decide)).resolve_right (by decide)).1⟩
  have K55 : Aside0 (∀ b : List Int, ByIn b → b.length ≤ 255 → ((strOfNums b).toList ≠ [] → ElemOK ⟨55, bytesOf (strOfNums b)⟩) ∧ (strOfNums b).size ≤ 140737488355328) := ⟨fun b hb hl => by
    have hs := nums_size b
    refine ⟨fun q => ?_, by omega⟩
    have h0 : (strOfNums b).size ≠ 0 := fun h => q ((empty_iff _).2 h)
    exact chk_ok fm55 (fun h => absurd h (by decide)) (by omega) (by omega) rfl⟩
  have d4 := dig_is (v := x.f6) (width := 12) hx.inn.amt.1 11 rfl (by decide) (by have := hx.inn.amt.2; omega) (by have := hx.inn.amt.2; omega)
  have d11 := dig_is (v := x.f1) (width := 6) hx.inn.stan.1 5 rfl (by decide) (by have := hx.inn.stan.2; omega) (by have := hx.inn.stan.2; omega)
  have d22 := dig_is (v := x.f11) (width := 3) hx.inn.ent.1 2 rfl (by decide) (by have := hx.inn.ent.2; omega) (by have := hx.inn.ent.2; omega)
  have d56 := dig_is (v := x.f14.f0) (width := 6) hx.inn.ost.1 5 rfl (by decide) (by have := hx.inn.ost.2; omega) (by have := hx.inn.ost.2; omega)
  have K4 : Aside0 (ElemOK ⟨4, bytesOf (digS x.f6 12)⟩ ∧ (digS x.f6 12).size ≤ 140737488355328) := ⟨chk_ok fm4 (fun _ => d4.2) (by omega) (by omega) (num_typed d4.1), by omega⟩
  have K11 : Aside0 (ElemOK ⟨11, bytesOf (digS x.f1 6)⟩ ∧ (digS x.f1 6).size ≤ 140737488355328) := ⟨chk_ok fm11 (fun _ => d11.2) (by omega) (by omega) (num_typed d11.1), by omega⟩
  have K22 : Aside0 (ElemOK ⟨22, bytesOf (digS x.f11 3)⟩ ∧ (digS x.f11 3).size ≤ 140737488355328) := ⟨chk_ok fm22 (fun _ => d22.2) (by omega) (by omega) (num_typed d22.1), by omega⟩
  have K56 : Aside0 (x.f14.f1.toList ≠ [] → ElemOK ⟨56, bytesOf (digS x.f14.f0 6 ++ x.f14.f1)⟩ ∧ (digS x.f14.f0 6 ++ x.f14.f1).size = 20 ∧ ¬ 9223372036854775807 < (digS x.f14.f0 6).size + x.f14.f1.size) := ⟨fun q => by
    have ht := right_iff.1 (timeF_right (hx.org q))
    have hsz : (digS x.f14.f0 6 ++ x.f14.f1).size = 20 := by rw [ByteArray.size_append]; omega
    refine ⟨chk_ok fm56 (fun _ => by rw [hsz]; rfl) (by omega) (by omega) ?_, hsz, by omega⟩
    unfold typedF
    rw [if_pos rfl]
    exact right_iff.2 ⟨by rw [bs_append, List.all_append, (right_iff.1 d56.1).1, ht.1]; rfl, by omega, Int.le_refl _⟩⟩
  clear hx l16 g16 fm2 fm4 fm11 fm12 fm22 fm25 fm32 fm37 fm38 fm39 fm41 fm42 fm48 fm49 fm55 fm56 d4 d11 d22 d56
  go_enter Tryz.func61, Tryz.ntmps61
  go_upto_region 1 with fail
  obtain ⟨mc, hmc⟩ : ∃ m, m = rowM x (.slice A16 x.f15.length c16) (.slice A19 x.f18.length c19) (.slice A20 x.f19.length c20) := ⟨_, rfl⟩
  rw [← hmc]
  have HMC := Aside0.mk hmc
  clear hmc
  obtain ⟨p, hp⟩ : ∃ p, p = w.heap.size := ⟨_, rfl⟩
  have J0 : (w.alloc (.cells mc 29)).heap[w.heap.size]? = some (.cells mc 29 (0, 0)) ∧ Below w.heap.size w (w.alloc (.cells mc 29)) := ⟨blk_new w _, below_alloc (Below.refl _ w) _⟩
  rw [← hp] at J0 ⊢
  revert J0
  generalize w.alloc (.cells mc 29) = w0
  intro J0
  have BW0 := Aside0.mk (show Below w.heap.size w w0 by rw [← hp]; exact J0.2)
  have MB : Aside0 (∀ W, Below w0.heap.size w0 W → W.heap[p]? = some (.cells (rowM x (.slice A16 x.f15.length c16) (.slice A19 x.f18.length c19) (.slice A20 x.f19.length c20)) 29 (0, 0))) := ⟨fun W hW => by rw [← HMC.out]; exact blk_below J0.1 hW⟩
  clear J0 hp
  go_upto_region 2 with fail
  obtain ⟨t, ht⟩ : ∃ t, t = w0.heap.size := ⟨_, rfl⟩
  have T0 : EM w0 t 1 (w0.alloc (.cells #[.slice none 0 0] 155)) := ⟨[], [], .slice none 0 0, ⟨by rw [ht]; exact blk_new w0 _, Kd.R_nil _ _ _ _ _, rfl, fun j x z hx => by simp at hx, below_alloc (Below.refl _ w0) _, by omega⟩, ⟨List.Pairwise.nil, fun y hy => absurd hy (List.not_mem_nil), by decide⟩⟩
  rw [← ht]
  revert T0
  generalize w0.alloc (.cells #[.slice none 0 0] 155) = w1
  intro T0
  have TT := Aside0.mk T0
  clear T0 ht
  have q4 := (blk_cell (MB.out _ TT.out.bel) 4).trans (show _ = some (Value.string x.f4) from rfl)
  go_wp2_with fail
  refine (someE_e w0 _ t 1 2 x.f4 TT.out ⟨by decide, by decide, by decide, HZ.out.z4⟩ K2.out).mono ?_
  rintro e w2 ⟨rfl, h⟩
  have TU := Aside0.mk h; clear h TT; have TT := TU; clear TU
  clear q4
  have q5 := (blk_cell (MB.out _ TT.out.bel) 5).trans (show _ = some (Value.string x.f5) from rfl)
  go_upto_if 16 with fail
  go_cut [] from 14 to 20 (fun wc => Aside0 (EM w0 t 4 wc))
  case first =>
    by_cases c : x.f5.toList = []
    · have b : (x.f5.toList == ([] : List UInt8)) = true := beq_iff_eq.mpr c
      have be : x.f5.toList.isEmpty = true := by rw [c]; rfl
      replace c := Aside0.mk c
      first | rw [be] | skip
      clear b
      go_wp2_with fail
      go_meet
      exact ⟨TT.out.up (by decide)⟩
    · have b : (x.f5.toList == ([] : List UInt8)) = false := beq_eq_false_iff_ne.mpr c
      have be : x.f5.toList.isEmpty = false := by cases h : x.f5.toList with | nil => exact absurd h c | cons a l => rfl
      have HC := Aside0.mk c
      clear c
      first | rw [be] | skip
      clear b
      have q6 := (blk_cell (MB.out _ TT.out.bel) 6).trans (show _ = some (Value.int .u64 x.f6) from rfl)
      go_wp2_with fail
      refine (digE_e w0 _ t 2 4 x.f6 12 TT.out ⟨by decide, by decide, by decide⟩ HX.out.inn.amt.1 (by have := HX.out.inn.amt.2; omega) (by decide) (by decide) K4.out.1 K4.out.2).mono ?_
      rintro e w3 ⟨rfl, h⟩
      have TU := Aside0.mk h; clear h TT; have TT := TU; clear TU
      clear q6
      go_wp2_with fail
      go_meet
      exact TT
  case rest =>
    clear TT
    have TT := hcut
    clear hcut
    clear q5
    have q1 := (blk_cell (MB.out _ TT.out.bel) 1).trans (show _ = some (Value.int .i64 x.f1) from rfl)
    have ew : IntKind.u64.wrap x.f1 = x.f1 := u64_id HX.out.inn.stan.1 (by have := HX.out.inn.stan.2; omega)
    go_wp2_with fail
    try rw [ew]
    refine (digE_e w0 _ t 4 11 x.f1 6 TT.out ⟨by decide, by decide, by decide⟩ HX.out.inn.stan.1 (by have := HX.out.inn.stan.2; omega) (by decide) (by decide) K11.out.1 K11.out.2).mono ?_
    rintro e w4 ⟨rfl, h⟩
    have TU := Aside0.mk h; clear h TT; have TT := TU; clear TU
    clear q1 ew
    have q2 := (blk_cell (MB.out _ TT.out.bel) 2).trans (show _ = some (Value.string x.f2) from rfl)
    go_wp2_with fail
    refine (someE_e w0 _ t 11 12 x.f2 TT.out ⟨by decide, by decide, by decide, HZ.out.z2⟩ K12.out).mono ?_
    rintro e w5 ⟨rfl, h⟩
    have TU := Aside0.mk h; clear h TT; have TT := TU; clear TU
    clear q2
    have q11 := (blk_cell (MB.out _ TT.out.bel) 11).trans (show _ = some (Value.int .i64 x.f11) from rfl)
    go_upto_if 32 with fail
    go_cut [] from 30 to 37 (fun wc => Aside0 (EM w0 t 22 wc))
    case first =>
      rcases (show x.f11 = 0 ∨ 0 < x.f11 by have := HX.out.inn.ent.1; omega) with c11 | c11
      · have b11 : (x.f11 == 0) = true := beq_iff_eq.mpr c11
        replace c11 := Aside0.mk c11
        go_wp2_with fail
        go_meet
        exact ⟨TT.out.up (by decide)⟩
      · have b11 : (x.f11 == 0) = false := beq_eq_false_iff_ne.mpr (by omega)
        have c11n : ¬ x.f11 ≤ 0 := by omega
        clear q11
        have q11 := (blk_cell (MB.out _ TT.out.bel) 11).trans (show _ = some (Value.int .i64 x.f11) from rfl)
        have ew : IntKind.u64.wrap x.f11 = x.f11 := u64_id HX.out.inn.ent.1 (by have := HX.out.inn.ent.2; omega)
        go_wp2_with fail
        try rw [ew]
        refine (digE_e w0 _ t 12 22 x.f11 3 TT.out ⟨by decide, by decide, by decide⟩ HX.out.inn.ent.1 (by have := HX.out.inn.ent.2; omega) (by decide) (by decide) K22.out.1 K22.out.2).mono ?_
        rintro e w6 ⟨rfl, h⟩
        have TU := Aside0.mk h; clear h TT; have TT := TU; clear TU
        clear q11 ew
        go_wp2_with fail
        go_meet
        exact TT
    case rest =>
      clear TT
      have TT := hcut
      clear hcut
      clear q11
      have q13 := (blk_cell (MB.out _ TT.out.bel) 13).trans (show _ = some (Value.string x.f13) from rfl)
      go_wp2_with fail
      refine (someE_e w0 _ t 22 25 x.f13 TT.out ⟨by decide, by decide, by decide, HZ.out.z13⟩ K25.out).mono ?_
      rintro e w7 ⟨rfl, h⟩
      have TU := Aside0.mk h; clear h TT; have TT := TU; clear TU
      clear q13
      have q3 := (blk_cell (MB.out _ TT.out.bel) 3).trans (show _ = some (Value.string x.f3) from rfl)
      go_wp2_with fail
      refine (someE_e w0 _ t 25 32 x.f3 TT.out ⟨by decide, by decide, by decide, HZ.out.z3⟩ K32.out).mono ?_
      rintro e w8 ⟨rfl, h⟩
      have TU := Aside0.mk h; clear h TT; have TT := TU; clear TU
      clear q3
      have q7 := (blk_cell (MB.out _ TT.out.bel) 7).trans (show _ = some (Value.string x.f7) from rfl)
      go_wp2_with fail
      refine (someE_e w0 _ t 32 37 x.f7 TT.out ⟨by decide, by decide, by decide, HZ.out.z7⟩ K37.out).mono ?_
      rintro e w9 ⟨rfl, h⟩
      have TU := Aside0.mk h; clear h TT; have TT := TU; clear TU
      clear q7
      have q10 := (blk_cell (MB.out _ TT.out.bel) 10).trans (show _ = some (Value.string x.f10) from rfl)
      go_wp2_with fail
      refine (someE_e w0 _ t 37 38 x.f10 TT.out ⟨by decide, by decide, by decide, HZ.out.z10⟩ K38.out).mono ?_
      rintro e w10 ⟨rfl, h⟩
      have TU := Aside0.mk h; clear h TT; have TT := TU; clear TU
      clear q10
      have q12 := (blk_cell (MB.out _ TT.out.bel) 12).trans (show _ = some (Value.string x.f12) from rfl)
      go_wp2_with fail
      refine (someE_e w0 _ t 38 39 x.f12 TT.out ⟨by decide, by decide, by decide, HZ.out.z12⟩ K39.out).mono ?_
      rintro e w11 ⟨rfl, h⟩
      have TU := Aside0.mk h; clear h TT; have TT := TU; clear TU
      clear q12
      have q9 := (blk_cell (MB.out _ TT.out.bel) 9).trans (show _ = some (Value.string x.f9) from rfl)
      go_wp2_with fail
      refine (wide_e x.f9 8 _ HZ.out.z9 (by decide)).mono ?_
      rintro e w12 ⟨s, rfl, hs, hb⟩
      have HS := Aside0.mk (K41.out s hs)
      have TU := Aside0.mk (TT.out.below hb.below); clear hb hs TT q9; have TT := TU; clear TU
      go_wp2_with fail
      refine (someE_e w0 _ t 39 41 s TT.out ⟨by decide, by decide, by decide, HS.out.2⟩ HS.out.1).mono ?_
      rintro e w13 ⟨rfl, h⟩
      have TU := Aside0.mk h; clear h TT; have TT := TU; clear TU
      clear HS
      have q8 := (blk_cell (MB.out _ TT.out.bel) 8).trans (show _ = some (Value.string x.f8) from rfl)
      go_wp2_with fail
      refine (wide_e x.f8 15 _ HZ.out.z8 (by decide)).mono ?_
      rintro e w14 ⟨s, rfl, hs, hb⟩
      have HS := Aside0.mk (K42.out s hs)
      have TU := Aside0.mk (TT.out.below hb.below); clear hb hs TT q8; have TT := TU; clear TU
      go_wp2_with fail
      refine (someE_e w0 _ t 41 42 s TT.out ⟨by decide, by decide, by decide, HS.out.2⟩ HS.out.1).mono ?_
      rintro e w15 ⟨rfl, h⟩
      have TU := Aside0.mk h; clear h TT; have TT := TU; clear TU
      clear HS
      have q17 := (blk_cell (MB.out _ TT.out.bel) 17).trans (show _ = some (Value.string x.f16) from rfl)
      go_wp2_with fail
      refine (someE_e w0 _ t 42 48 x.f16 TT.out ⟨by decide, by decide, by decide, HZ.out.z16⟩ K48.out).mono ?_
      rintro e w16 ⟨rfl, h⟩
      have TU := Aside0.mk h; clear h TT; have TT := TU; clear TU
      clear q17
      have q5 := (blk_cell (MB.out _ TT.out.bel) 5).trans (show _ = some (Value.string x.f5) from rfl)
      go_wp2_with fail
      refine (someE_e w0 _ t 48 49 x.f5 TT.out ⟨by decide, by decide, by decide, HZ.out.z5⟩ K49.out).mono ?_
      rintro e w17 ⟨rfl, h⟩
      have TU := Aside0.mk h; clear h TT; have TT := TU; clear TU
      clear q5
      have q16 := (blk_cell (MB.out _ TT.out.bel) 16).trans (show _ = some (Value.slice A16 x.f15.length c16) from rfl)
      go_wp2_with fail
      refine (writeTags_e A16 c16 x.f15 _ (Kd.C_below HG.out.2 (below_step BW0.out TT.out.bel)) HG.out.1).mono ?_
      rintro e wt ⟨Ab, b, cb, r, rfl, hr0, hrl, hri, hbc, hbC, hb⟩
      obtain rfl := hr0.2 HX.out.inn.tags
      have HS := Aside0.mk (K55.out b (hri HX.out.inn.tin) (by have := (hrl rfl).1; have := HX.out.tag; omega))
      have TU := Aside0.mk (TT.out.below hb); clear hr0 hrl hri hb TT q16; have TT := TU; clear TU
      have hcv := Kd.C_string (P := Tryz.prog) (A := Ab) (c := cb) Tryz.underlying38 Tryz.underlying5 Tryz.underlying9 hbC
      go_wp2_with fail
      refine (someE_e w0 _ t 49 55 (strOfNums b) TT.out ⟨by decide, by decide, by decide, HS.out.2⟩ HS.out.1).mono ?_
      rintro e w18 ⟨rfl, h⟩
      have TU := Aside0.mk h; clear h TT; have TT := TU; clear TU
      clear HS hcv hbC
      have q15 := (blk_cell (MB.out _ TT.out.bel) 15).trans (show _ = some (Value.string x.f14.f1) from rfl)
      go_upto_if 89 with fail
      go_cut [] from 86 to 104 (fun wc => Aside0 (EM w0 t 56 wc))
      case first =>
        by_cases c : x.f14.f1.toList = []
        · have b : (x.f14.f1.toList == ([] : List UInt8)) = true := beq_iff_eq.mpr c
          have be : x.f14.f1.toList.isEmpty = true := by rw [c]; rfl
          replace c := Aside0.mk c
          first | rw [be] | skip
          clear b
          go_wp2_with fail
          go_meet
          exact ⟨TT.out.up (by decide)⟩
        · have b : (x.f14.f1.toList == ([] : List UInt8)) = false := beq_eq_false_iff_ne.mpr c
          have be : x.f14.f1.toList.isEmpty = false := by cases h : x.f14.f1.toList with | nil => exact absurd h c | cons a l => rfl
          have HC := Aside0.mk c
          clear c
          first | rw [be] | skip
          clear b
          have q14 := (blk_cell (MB.out _ TT.out.bel) 14).trans (show _ = some (Value.int .i64 x.f14.f0) from rfl)
          have ew : IntKind.u64.wrap x.f14.f0 = x.f14.f0 := u64_id HX.out.inn.ost.1 (by have := HX.out.inn.ost.2; omega)
          go_wp2_with fail
          try rw [ew]
          refine (digits_e x.f14.f0 6 _ HX.out.inn.ost.1 (by have := HX.out.inn.ost.2; omega) (by decide) (by decide)).mono ?_
          rintro e wd ⟨rfl, hb⟩
          have TU := Aside0.mk (TT.out.below hb); clear hb TT q14 q15 ew; have TT := TU; clear TU
          have q15 := (blk_cell (MB.out _ TT.out.bel) 15).trans (show _ = some (Value.string x.f14.f1) from rfl)
          have HS := Aside0.mk (K56.out HC.out)
          have hov := HS.out.2.2
          go_wp2_with fail
          refine (someE_e w0 _ t 55 56 (digS x.f14.f0 6 ++ x.f14.f1) TT.out ⟨by decide, by decide, by decide, by have := HS.out.2.1; omega⟩ (fun _ => HS.out.1)).mono ?_
          rintro e w19 ⟨rfl, h⟩
          have TU := Aside0.mk h; clear h TT; have TT := TU; clear TU
          go_wp2_with fail
          go_meet
          exact TT
      case rest =>
        clear TT
        have TT := hcut
        clear hcut
        clear q15
        obtain ⟨L, zs, v, hT, hE⟩ := TT.out
        have HT := Aside0.mk (And.intro hT hE)
        have q0 := (blk_cell HT.out.1.cell 0).trans (show _ = some v from rfl)
        clear hT hE TT
        go_wp2_with fail
        go_ret
        exact els_end HT.out.1 HT.out.2 (below_step BW0.out HT.out.1.bel)
end Go.Proofs.YthapknnppabdaaaGreat.MQ
namespace Go.Proofs.YthapknnppabdaaaGreat.MQ
open Go.RowKit Go.Proofs.YthapknnppabdaaaGreatW.PrintWords Go.Proofs.YthapknnppabdaaaGreatW.PrintLast Go.Proofs.YthapknnppabdaaaGreatW.PrintMore
set_option linter.unusedVariables false
set_option linter.unusedSimpArgs false
/-- Bytes in a block that was made since w0: they may be appended to. -/
structure BB (w0 : World) (l : List Int) (v : Value) (w : World) : Prop where
  bel : Below w0.heap.size w0 w
  val : ∃ g c, v = .slice (some ⟨g, 0, none⟩) l.length c ∧ OwnAt w0 w 1 g c l.length (nums .u8 l)
theorem nums_len (l : List Int) : (nums .u8 l).length = l.length := by simp [nums]
theorem BB.below {w0 : World} {l : List Int} {v : Value} {w w' : World} (h : BB w0 l v w) (hb : Below w.heap.size w w') : BB w0 l v w' := by
  obtain ⟨g, c, rfl, ho⟩ := h.val
  refine ⟨below_step h.bel hb, g, c, rfl, ho.new, ho.le, ho.max, fun j hj => ?_, fun j hj => ?_⟩
  · have hlt := World.block_lt_of_cell? w (a := ⟨g, j, none⟩) ((ho.holds j hj).trans (List.getElem?_eq_getElem (by rw [nums_len]; omega)))
    rw [hb.cell hlt]; exact ho.holds j hj
  · obtain ⟨u, hu⟩ := Option.isSome_iff_exists.1 (ho.there j hj).1
    have hlt := World.block_lt_of_cell? w (a := ⟨g, j, none⟩) hu
    rw [hb.cell hlt, hb.frozen hlt]; exact ho.there j hj
theorem nums_get (l : List Int) (j : Nat) (hj : j < l.length) : (nums .u8 l)[j]? = some (.int .u8 (rd l (j : Int))) := by
  simp [nums, rd, List.getD_eq_getElem?_getD, hj]
theorem BB.reads {w0 : World} {l : List Int} {v : Value} {w : World} (h : BB w0 l v w) : ∃ A c, v = .slice A l.length c ∧ l.length ≤ c ∧ (Kd.int .u8).C w A l.length l := by
  obtain ⟨g, c, rfl, ho⟩ := h.val
  refine ⟨_, c, rfl, ho.le, Kd.C_of_reads (d := (0 : Int)) ⟨rfl, by have := ho.max; simp only [maxLen] at this; have := ho.le; omega, fun hp => ⟨_, rfl, fun j hj => ?_⟩⟩⟩
  rw [show ((⟨g, 0, none⟩ : Addr).add j) = ⟨g, j, none⟩ by unfold Addr.add; simp; intro e; omega, ho.holds j (by omega)]
  simp [nums, List.getD_eq_getElem?_getD, hj]
theorem bb_start (w0 W : World) (s : ByteArray) (hb : Below w0.heap.size w0 W) (hs : s.size ≤ 140737488355328) : BB w0 (bytesOf s) (.slice (some ⟨W.heap.size, 0, none⟩) s.size (grownCap W s.size 0 5)) (Lib.bytesWorld W 5 s) := by
  have hge := grownCap_ge W s.size 0 5
  have hmx := grownCap_le_maxLen W s.size 0 5 (by simp only [maxLen]; omega)
  have hn := Lib.bytesWorld_at_new W 5 s
  have hl := bytesOf_length s
  have hcs : (Lib.bytesCells W 5 s).size = grownCap W s.size 0 5 := by
    unfold Lib.bytesCells
    rw [Array.size_append, Array.size_map, Array.size_replicate]
    show s.size + _ = _
    omega
  refine ⟨bytes_below hb (below_size hb) 5 s, _, _, by rw [hl], below_size hb, by rw [hl]; exact hge, hmx, fun j hj => ?_, fun j hj => ⟨?_, ?_⟩⟩
  · have hj' : j < s.size := by omega
    rw [Lib.bytesWorld_cell W 5 s j hj', nums_get _ _ (by omega), rd_bytesOf]
    congr 2
    unfold bt
    simp only [Int.toNat_natCast]
    rw [dif_pos hj']
    have h' : j < s.data.toList.length := by rw [data_length]; exact hj'
    simp [List.getD_eq_getElem?_getD, List.getElem?_eq_getElem h']
    rfl
  · unfold World.cell?
    rw [hn]
    simp [hcs]
    omega
  · unfold World.frozen?
    rw [hn, hcs]
    simp
    omega
theorem bb_append (w : World) {ops : Array Oper} {rest : List Oper} {o : Oper} {a : Act} {Q : Exit → Act → World → Prop} (hgd : o.guard = none) (s x : Operand)
    (ho : o.op = .call { callee := .builtin .append, args := #[s, x], argTypes := #[38, 38] })
    {w0 : World} {l : List Int} {v : Value} (hv : a.eval s = v) (h : BB w0 l v w) (A : Option Addr) (c : Nat) (m : List Int) (hx : a.eval x = .slice A m.length c) (hm : (Kd.int .u8).C w A m.length m) (hl : l.length + m.length ≤ 1000000)
    (hK : ∀ v' w', BB w0 (l ++ m) v' w' → wpList Tryz.prog ops Q rest (a.put o.dst v') w') : wpList Tryz.prog ops Q (o :: rest) a w := by
  have hnl := nums_len m
  have hll := nums_len l
  have hi : ∃ i : TypeInfo, Tryz.prog.info? 5 = some i ∧ i.zero = some (.int .u8 0) ∧ i.size = 1 ∧ i.bytes = 1 := by
    have h5 : (Tryz.prog.info? 5).map (fun i => (i.zero, i.size, i.bytes)) = some (some (.int .u8 0), 1, 1) := by kernel_rfl
    cases hq : Tryz.prog.info? 5 with
    | none => rw [hq] at h5; cases h5
    | some i =>
      rw [hq] at h5
      simp only [Option.map_some, Option.some.injEq, Prod.mk.injEq] at h5
      exact ⟨i, rfl, h5.1, h5.2.1, h5.2.2⟩
  obtain ⟨i, hi, hz, hsz, hby⟩ := hi
  have hs : Src Tryz.prog i.size 38 (.slice A m.length c) m.length (nums .u8 m) w := by
    rw [hsz]
    rcases Nat.eq_zero_or_pos m.length with h0 | h0
    · have hm0 : m = [] := List.eq_nil_of_length_eq_zero h0
      subst hm0
      cases A with
      | none => exact Src.ofNil w Tryz.underlying38 c
      | some a' => exact Src.ofSlice w Tryz.underlying38 a' 0 c [] (by simp) (fun j u hu => by simp at hu) (fun u hu => by cases hu)
    · obtain ⟨_, _, h3⟩ := Kd.reads_of_C (d := (0 : Int)) hm
      obtain ⟨ad, rfl, hc⟩ := h3 h0
      refine Src.ofSlice w Tryz.underlying38 ad m.length c (nums .u8 m) (by rw [hnl]; omega) (fun j u hu => ?_) (fun u hu => ?_)
      · have hj : j < m.length := by have := (List.getElem?_eq_some_iff.1 hu).1; omega
        rw [hc j hj]
        rw [nums_get _ _ hj] at hu
        rw [← hu]
        simp [rd, List.getD_eq_getElem?_getD, hj]
      · simp only [nums, List.mem_map] at hu
        obtain ⟨_, _, rfl⟩ := hu
        rfl
  obtain ⟨g, cap, rfl, hO⟩ := h.val
  have happ : nums .u8 (l ++ m) = nums .u8 l ++ nums .u8 m := by simp [nums]
  have hlen : (l ++ m).length = l.length + m.length := List.length_append
  refine wpList_plain hgd fun K hK' => ?_
  by_cases hfit : l.length + m.length ≤ cap
  · have hsome : ∀ j, j < (nums .u8 m).length → (w.cell? ⟨g, 0 + l.length * i.size + j, none⟩).isSome = true := fun j hj => by rw [hsz]; exact (by have := (hO.there (l.length + j) (by omega)).1; rw [show 0 + l.length * 1 + j = l.length + j by omega]; exact this)
    have hrun := run_append_room_src (P := Tryz.prog) w 38 38 o.type 5 i Tryz.underlying38 hi g 0 l.length cap _ m.length (nums .u8 m) hs hfit hsome (fun j hj => by rw [hsz]; have := (hO.there (l.length + j) (by omega)).2; rw [show 0 + l.length * 1 + j = l.length + j by omega]; exact this)
    obtain ⟨so, st, sp, ss⟩ := setCells_same g (nums .u8 m) (0 + l.length * i.size) w
    have key : BB w0 (l ++ m) (.slice (some ⟨g, 0, none⟩) (l.length + m.length) cap) (w.setCells g (0 + l.length * i.size) (nums .u8 m)) := by
      refine ⟨h.bel.trans ⟨so, st, sp, Nat.le_of_eq ss.symm, fun k hk2 => World.heap_setCells_other w g _ _ (Nat.lt_of_lt_of_le hk2 (below_size h.bel)) (by have := hO.new; omega)⟩, g, cap, by rw [hlen], hO.new, by rw [hlen]; exact hfit, hO.max, fun j hj => ?_, fun j hj => ⟨?_, (World.frozen?_setCells g _ _ _ _).trans (hO.there j hj).2⟩⟩
      · rw [hlen] at hj
        rw [happ]
        by_cases hjl : j < l.length
        · rw [World.cell?_setCells_out g _ _ _ _ (fun _ _ => Or.inl (by show j < 0 + l.length * i.size; rw [hsz]; omega)), List.getElem?_append_left (by omega)]
          exact hO.holds j (by omega)
        · have ht' : j - l.length < (nums .u8 m).length := by omega
          have := World.cell?_setCells_in g (nums .u8 m) (0 + l.length * i.size) w hsome (j - l.length) ht'
          rw [show 0 + l.length * i.size + (j - l.length) = j by rw [hsz]; omega] at this
          rw [this, List.getElem?_append_right (by omega), hll, List.getElem?_eq_getElem ht']
      · by_cases hin : l.length ≤ j ∧ j < l.length + m.length
        · have := World.cell?_setCells_in g (nums .u8 m) (0 + l.length * i.size) w hsome (j - l.length) (by omega)
          rw [show 0 + l.length * i.size + (j - l.length) = j by rw [hsz]; omega] at this
          rw [this]; rfl
        · rw [World.cell?_setCells_out g _ _ _ _ (fun _ _ => by show j < 0 + l.length * i.size ∨ 0 + l.length * i.size + (nums .u8 m).length ≤ j; rw [hsz]; omega)]
          exact (hO.there j hj).1
    revert hrun key
    generalize w.setCells g (0 + l.length * i.size) (nums .u8 m) = W1
    intro hrun key
    unfold Oper.wp
    simp [execOp, ho, resolve, invoke, builtin, hv, hx, hrun, Result.andThen]
    exact hK' _ _ (hK _ _ key)
  · have hold : (Builtin.firstCells i.size l.length (.slice (some ⟨g, 0, none⟩) l.length cap)).run Tryz.prog w.drew = .ok (nums .u8 l).toArray w.drew := by
      rw [hsz]
      refine run_firstCells_some w.drew 1 l.length ⟨g, 0, none⟩ l.length cap (nums .u8 l) (by omega) (fun j u hu => ?_)
      have hj : j < l.length := by have := (List.getElem?_eq_some_iff.1 hu).1; omega
      rw [Addr.add_lit, Nat.zero_add]
      exact (hO.holds j (by omega)).trans hu
    have hrun := run_append_grow_src (P := Tryz.prog) w 38 38 o.type 5 i (.int .u8 0) Tryz.underlying38 hi hz (some ⟨g, 0, none⟩) l.length cap (nums .u8 l) hold _ m.length (nums .u8 m) hs (by omega) (by omega) (growslice_fits (by omega) (by rw [hby]; omega))
    have hge := grownCap_ge w (l.length + m.length) cap 5
    have hcm := grownCap_le_maxLen w (l.length + m.length) cap 5 (by simp only [maxLen]; omega)
    have hsize : ((nums .u8 l ++ nums .u8 m).toArray ++ Builtin.zeroCells (Value.int .u8 0).cells (grownCap w (l.length + m.length) cap 5 - (l.length + m.length))).size = grownCap w (l.length + m.length) cap 5 := by
      rw [Array.size_append, List.size_toArray, List.length_append, hll, hnl, size_zeroCells]
      show _ + _ * 1 = _
      omega
    have key : BB w0 (l ++ m) (.slice (some ⟨w.heap.size, 0, none⟩) (l.length + m.length) (grownCap w (l.length + m.length) cap 5)) (w.drew.alloc (.cells ((nums .u8 l ++ nums .u8 m).toArray ++ Builtin.zeroCells (Value.int .u8 0).cells (grownCap w (l.length + m.length) cap 5 - (l.length + m.length))) 5)) := by
      have e1 : ∀ j, (w.drew.alloc (.cells ((nums .u8 l ++ nums .u8 m).toArray ++ Builtin.zeroCells (Value.int .u8 0).cells (grownCap w (l.length + m.length) cap 5 - (l.length + m.length))) 5)).cell? ⟨w.heap.size, j, none⟩ = _ := fun j => World.cell?_alloc_new w.drew _ _ j
      refine ⟨below_alloc (below_drew h.bel) _, w.heap.size, _, by rw [hlen], below_size h.bel, by rw [hlen]; exact hge, hcm, fun j hj => ?_, fun j hj => ⟨?_, ?_⟩⟩
      · rw [hlen] at hj
        rw [e1, happ, Array.getElem?_append_left (by rw [List.size_toArray, List.length_append]; omega), List.getElem?_toArray]
      · rw [e1, Array.getElem?_eq_getElem (by rw [hsize]; omega)]
        rfl
      · exact World.frozen?_alloc_new w.drew _ _ j
    revert hrun key
    generalize w.drew.alloc (.cells ((nums .u8 l ++ nums .u8 m).toArray ++ Builtin.zeroCells (Value.int .u8 0).cells (grownCap w (l.length + m.length) cap 5 - (l.length + m.length))) 5) = W1
    intro hrun key
    unfold Oper.wp
    simp [execOp, ho, resolve, invoke, builtin, hv, hx, hrun, Result.andThen]
    exact hK' _ _ (hK _ _ key)
def BytesEnd (n : Nat) (w : World) (e : Ending) (w' : World) : Prop := ∃ (m : List Int) (A : Option Addr) (c : Nat), e = .returned (.tuple #[.slice A m.length c, .int .i64 0]) ∧ m.length ≤ n ∧ m.length ≤ c ∧ (Kd.int .u8).C w' A m.length m ∧ Below w.heap.size w w'
theorem bb_end {n : Nat} {w W : World} {m : List Int} {v : Value} (h : BB w m v W) (hn : m.length ≤ n) : BytesEnd n w (.returned (.tuple #[v, .int .i64 0])) W := by
  obtain ⟨A, c, rfl, hc, hC⟩ := h.reads
  exact ⟨m, A, c, rfl, hn, hc, hC, h.bel⟩
theorem digS_size (v width : Int) : ((digS v width).size : Int) ≤ max width 0 := by
  unfold digS
  split
  · rw [pad_size]; omega
  · show ((0 : Nat) : Int) ≤ _; omega
set_option maxHeartbeats 8000000 in
set_option maxRecDepth 100000 in
theorem writeEl_e (no : Int) (l : List Int) (A : Option Addr) (c : Nat) (w : World) (hC : (Kd.int .u8).C w A l.length l) (hok : ElemOK ⟨no, l⟩) : Calls Tryz.prog 99 #[.agg #[.int .i64 no, .slice A l.length c]] w (BytesEnd 1100 w) := by
  have hu114 := Tryz.underlying114
  have hu50 := Tryz.underlying50
  have hI := elem_is hok
  have l3 : l.length ≤ 999 := by have h1 : (l.length : Int) ≤ (fmtF no).f3 := hI.l2; have h2 : (fmtF no).f3 ≤ 999 := hI.l3; omega
  have HI := Aside0.mk hI
  have HC := Aside0.mk (And.intro hC l3)
  have h0 : chkF no l = 0 := hok
  have HO := Aside0.mk h0
  clear hC hok hI h0 l3
  go_enter Tryz.func99, Tryz.ntmps99
  go_upto_region 1 with fail
  obtain ⟨p, hp⟩ : ∃ p, p = w.heap.size := ⟨_, rfl⟩
  obtain ⟨W0, hW0⟩ : ∃ W, W = w.alloc (.cells #[.int .i64 no, .slice A l.length c] 50) := ⟨_, rfl⟩
  have BW : Aside0 (Below w.heap.size w W0) := ⟨by rw [hW0]; exact below_alloc (Below.refl _ w) _⟩
  have HP : Aside0 (W0.heap[p]? = some (.cells #[.int .i64 no, .slice A l.length c] 50 (0, 0))) := ⟨by rw [hW0, hp]; exact blk_new w _⟩
  rw [← hW0, ← hp]
  clear hW0 hp
  have c0 : W0.cell? ⟨p, 0, none⟩ = some (.int .i64 no) := (blk_cell HP.out 0).trans rfl
  have c1 : W0.cell? ⟨p, 1, none⟩ = some (.slice A l.length c) := (blk_cell HP.out 1).trans rfl
  go_wp2_with fail
  refine (chkEl_e no A c l _ (Kd.C_below HC.out.1 BW.out) (by have := HC.out.2; omega)).mono ?_
  rintro e w1 ⟨rfl, hB⟩
  rw [HO.out]
  have HP1 := Aside0.mk (blk_below HP.out hB)
  have B1 := Aside0.mk (below_step BW.out hB)
  clear hB c0 c1 HP BW
  have c0 : w1.cell? ⟨p, 0, none⟩ = some (.int .i64 no) := (blk_cell HP1.out 0).trans rfl
  go_wp2_with fail
  refine (format_e no _).mono ?_
  rintro e w2 ⟨⟨a, b, d, mx⟩, hy, rfl, hB⟩
  dsimp only
  have HP2 := Aside0.mk (blk_below HP1.out hB)
  have B2 := Aside0.mk (below_step B1.out hB)
  have HD : Aside0 (0 ≤ d ∧ d ≤ 4) := ⟨by have h1 : 0 ≤ (fmtF no).f2 := HI.out.d0; have h2 : (fmtF no).f2 ≤ 4 := HI.out.d4; rw [← hy] at h1 h2; exact ⟨h1, h2⟩⟩
  clear hB hy c0 HP1 B1
  go_upto_region 5 with fail
  obtain ⟨q, hq⟩ : ∃ q, q = w2.heap.size := ⟨_, rfl⟩
  obtain ⟨W3, hW3⟩ : ∃ W, W = w2.alloc (.cells #[.int .i64 a, .int .i64 b, .int .i64 d, .int .i64 mx] 114) := ⟨_, rfl⟩
  have BX : Aside0 (Below w2.heap.size w2 W3) := ⟨by rw [hW3]; exact below_alloc (Below.refl _ w2) _⟩
  have HQ : Aside0 (W3.heap[q]? = some (.cells #[.int .i64 a, .int .i64 b, .int .i64 d, .int .i64 mx] 114 (0, 0))) := ⟨by rw [hW3, hq]; exact blk_new w2 _⟩
  rw [← hW3, ← hq]
  clear hW3 hq
  have HP3 := Aside0.mk (blk_below HP2.out BX.out)
  have B3 := Aside0.mk (below_step B2.out BX.out)
  clear BX HP2 B2
  have e1 : W3.cell? ⟨p, 1, none⟩ = some (.slice A l.length c) := (blk_cell HP3.out 1).trans rfl
  have f2 : W3.cell? ⟨q, 2, none⟩ = some (.int .i64 d) := (blk_cell HQ.out 2).trans rfl
  go_upto_if 21 with fail
  go_cut [7] from 19 to 31 (fun s7 wc => ∃ s : ByteArray, s7 = .string s ∧ Aside0 (s.size ≤ 4) ∧ Aside0 (Below w.heap.size w wc) ∧ Aside0 (wc.heap[p]? = some (.cells #[.int .i64 no, .slice A l.length c] 50 (0, 0))))
  case first =>
    rcases (show d = 0 ∨ 0 < d by have := HD.out; omega) with h | h
    · subst h
      go_wp2_with fail
      go_meet
      exact ⟨⟨#[]⟩, rfl, ⟨by decide⟩, B3, HP3⟩
    · have hn : ¬ d ≤ 0 := by omega
      have ew : IntKind.u64.wrap (l.length : Int) = (l.length : Int) := u64_id (by omega) (by have := HC.out.2; omega)
      go_wp2_with fail
      try rw [ew]
      refine (digits_e (l.length : Int) d _ (by omega) (by have := HC.out.2; omega) (by omega) (by have := HD.out; omega)).mono ?_
      rintro e w4 ⟨rfl, hB⟩
      have B4 := Aside0.mk (below_step B3.out hB)
      have HP4 := Aside0.mk (blk_below HP3.out hB)
      have HS : Aside0 ((digS (l.length : Int) d).size ≤ 4) := ⟨by have := digS_size (l.length : Int) d; have := HD.out; omega⟩
      clear hB
      go_wp2_with fail
      go_meet
      exact ⟨_, rfl, HS, B4, HP4⟩
  case rest =>
    clear e1 f2 HQ HP3 B3
    obtain ⟨s, rfl, HS, B4, HP4⟩ := hcut
    have kb := fun W => print_bytes (P := Tryz.prog) 9 38 5 Tryz.underlying9 Tryz.underlying38 Tryz.underlying5 s W
    have HB := Aside0.mk (bb_start w wc s B4.out (by have := HS.out; omega))
    have HP5 := Aside0.mk (blk_below HP4.out (bytes_below (Below.refl _ wc) (Nat.le_refl _) 5 s))
    have e1 : (Lib.bytesWorld wc 5 s).cell? ⟨p, 1, none⟩ = some (.slice A l.length c) := (blk_cell HP5.out 1).trans rfl
    go_wp2_with (first | ((with_reducible refine gate_builtin (b := .append) (xs := #[.tmp 33, .tmp 35]) rfl ?_); refine bb_append _ rfl (.tmp 33) (.tmp 35) rfl (by rfl) HB.out A c l (by rfl) (Kd.C_below HC.out.1 HB.out.bel) (by rw [bytesOf_length]; have := HS.out; have := HC.out.2; omega) ?_; intro v' w' hBB; have HE := Aside0.mk hBB; clear hBB))
    go_ret2
    exact bb_end HE.out (by rw [List.length_append, bytesOf_length]; have := HS.out; have := HC.out.2; omega)
end Go.Proofs.YthapknnppabdaaaGreat.MQ
