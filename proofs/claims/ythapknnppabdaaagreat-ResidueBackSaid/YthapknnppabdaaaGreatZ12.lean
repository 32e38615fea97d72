/- ResidueBack: part 12 of its proof. -/
import Derived.Test.YthapknnppabdaaaGreatZ11
namespace Go.Proofs.YthapknnppabdaaaGreat.MQ
open Go.RowKit Go.Proofs.YthapknnppabdaaaGreatW.PrintWords Go.Proofs.YthapknnppabdaaaGreatW.PrintLast Go.Proofs.YthapknnppabdaaaGreatW.PrintMore
set_option linter.unusedVariables false
set_option linter.unusedSimpArgs false
def hexD : ByteArray := ⟨#[48, 49, 50, 51, 52, 53, 54, 55, 56, 57, 65, 66, 67, 68, 69, 70]⟩
theorem hex_sign : ∀ a : Fin 16, (bs (hexD.extract a.val (a.val + 1))).all hexc = true ∧ (hexD.extract a.val (a.val + 1)).size = 1 := by decide +kernel
theorem and15 : ∀ x : Fin 256, 0 ≤ Go.bits .and .u8 (x.val : Int) 15 ∧ Go.bits .and .u8 (x.val : Int) 15 ≤ 15 := by decide +kernel
theorem hex_one {a : Int} (h0 : 0 ≤ a) (h1 : a ≤ 15) : (bs (hexD.extract a.toNat ((a + 1) % 256).toNat)).all hexc = true ∧ (hexD.extract a.toNat ((a + 1) % 256).toNat).size = 1 := by
  have e : ((a + 1) % 256).toNat = a.toNat + 1 := by omega
  rw [e]
  exact hex_sign ⟨a.toNat, by omega⟩
theorem hex_from (l : List Int) (hl : l.length ≤ 1000000) (hb : ByIn l) : ∀ (d i k : Nat) (acc : ByteArray), i + d = l.length → d < k → (bs acc).all hexc = true → acc.size = 2 * i → ∃ h, comptoirref01_Hex.l0 k l acc (i : Int) = some h ∧ (bs h).all hexc = true ∧ h.size = 2 * l.length
  | 0, i, 0, acc, _, hk, _, _ => by omega
  | 0, i, k + 1, acc, hi, _, ha, hz => by
    simp only [comptoirref01_Hex.l0]
    rw [if_neg (by omega)]
    exact ⟨_, rfl, ha, by omega⟩
  | d + 1, i, 0, acc, hi, hk, _, _ => by omega
  | d + 1, i, k + 1, acc, hi, hk, ha, hz => by
    have h1 : i < l.length := by omega
    have h2 : wrap64 ((i : Int) + 1) = ((i + 1 : Nat) : Int) := by unfold wrap64; omega
    obtain ⟨x, hx⟩ : ∃ x, x = rd l (i : Int) := ⟨_, rfl⟩
    have hr : 0 ≤ x ∧ x < 256 := by rw [hx, rd_get h1]; exact hb _ (List.getElem_mem h1)
    have hq : 0 ≤ x / 16 ∧ x / 16 ≤ 15 := by omega
    have hn : 0 ≤ Go.bits .and .u8 x 15 ∧ Go.bits .and .u8 x 15 ≤ 15 := by
      have := and15 ⟨x.toNat, by omega⟩
      rw [show ((x.toNat : Nat) : Int) = x by omega] at this
      exact this
    have s1 := hex_one hq.1 hq.2
    have s2 := hex_one hn.1 hn.2
    simp only [comptoirref01_Hex.l0]
    rw [← hx]
    generalize hg : Go.bits .and .u8 x 15 = y at hn s2
    have f1 : (hexD.extract (x / 16).toNat ((x / 16 + 1) % 256).toNat).size = 1 := s1.2
    have f2 : (hexD.extract y.toNat ((y + 1) % 256).toNat).size = 1 := s2.2
    unfold hexD at f1 f2 s1 s2
    rw [if_pos (by omega), if_pos (by omega), if_pos (by omega), if_pos (by omega), if_pos (by omega), if_pos (by rw [f1]; omega), if_pos (by omega), if_pos (by omega), if_pos (by omega), if_pos (by rw [ByteArray.size_append, f1, f2]; omega), h2]
    exact hex_from l hl hb d (i + 1) k _ (by omega) (by omega) (by rw [bs_append, bs_append, List.all_append, List.all_append, ha, s1.1, s2.1]; rfl) (by rw [ByteArray.size_append, ByteArray.size_append, f1, f2]; omega)
def HexOf (n : Nat) (h : ByteArray) : Prop := hexE h = 0 ∧ h.size = 2 * n
theorem hex_e (A : Option Addr) (c : Nat) (l : List Int) (w : World) (hC : Kd.C (Kd.int .u8) w A l.length l) (hc : l.length ≤ c) (hl : l.length ≤ 1000000) (hb : ByIn l) : Calls Tryz.prog 87 #[.slice A l.length c] w (OutS (HexOf l.length) w) := by
  obtain ⟨h, e1, e2, e3⟩ := hex_from l hl hb l.length 0 (l.length + 1) ⟨#[]⟩ (by omega) (by omega) rfl rfl
  refine (comptoirref01_Hex.calls (l.length + 1) A c l h w hC hc e1).mono fun e w' g => ⟨h, g.1, ⟨?_, e3⟩, g.2.below⟩
  unfold hexE hexF
  rw [e2, decide_eq_true (by omega)]
  rfl
set_option maxRecDepth 10000 in
theorem code_e (k : Int) (w : World) : Calls Tryz.prog 82 #[.int .i64 k] w fun e w' => e = .returned (.string (rowOf k).f0) ∧ Below w.heap.size w w' := by
  have hfd_56_0 : ∀ (v0 v1 v2 v3 : Value) (W : World), (Instr.field 56 (.agg #[v0, v1, v2, v3]) 0).run Tryz.prog W = .ok v0 W := fun _ _ _ _ _ => by kernel_rfl
  go_enter Tryz.func82, Tryz.ntmps82
  go_wp2_with fail
  refine (row_e k w).mono ?_
  rintro e w1 ⟨y, hy, rfl, hb⟩
  have HY := Aside0.mk hy
  have BB := Aside0.mk hb
  clear hy hb
  go_wp2_with fail
  go_ret
  exact ⟨by rw [← HY.out]; rfl, BB.out⟩
set_option maxRecDepth 10000 in
theorem mti_e (k : Int) (w : World) : Calls Tryz.prog 59 #[.int .i64 k] w fun e w' => e = .returned (.string (rowOf k).f1) ∧ Below w.heap.size w w' := by
  have hfd_56_1 : ∀ (v0 v1 v2 v3 : Value) (W : World), (Instr.field 56 (.agg #[v0, v1, v2, v3]) 1).run Tryz.prog W = .ok v1 W := fun _ _ _ _ _ => by kernel_rfl
  go_enter Tryz.func59, Tryz.ntmps59
  go_wp2_with fail
  refine (row_e k w).mono ?_
  rintro e w1 ⟨y, hy, rfl, hb⟩
  have HY := Aside0.mk hy
  have BB := Aside0.mk hb
  clear hy hb
  go_wp2_with fail
  go_ret
  exact ⟨by rw [← HY.out]; rfl, BB.out⟩
theorem attr_lit (W : World) (base : Nat) (ok : Nat → Prop) (hb : base ≤ W.heap.size) (hok : ok W.heap.size) : k130.R 130 (W.alloc (.cells #[.string xm.f0, .string xm.f1] 130)) base ok (.slice (some ⟨W.heap.size, 0, none⟩) 1 1) [xm] := by
  refine ⟨fun k hk => ?_, [.string xm.f0, .string xm.f1], ?_, ⟨rfl, fun j p hp => ?_⟩⟩
  · have : W.heap.size = k := by simpa [Value.ownBlock] using hk
    subst this; exact hok
  · exact World.ownsRow_lit (base := base) (e := 130) (size := 2) W #[.string xm.f0, .string xm.f1] 1 hb (by decide) rfl
  · cases j with
    | zero =>
      obtain rfl : xm = p := Option.some.inj hp
      exact k130_mkM _ _ _ xm
    | succ j => cases hp
def nDoc : ByteArray := ⟨#[68, 111, 99, 117, 109, 101, 110, 116]⟩
def bare : S133 := ⟨-1, nDoc, ⟨#[]⟩, []⟩
def root : S133 := ⟨-1, nDoc, ⟨#[]⟩, [xm]⟩
/-- The root's attribute has been set. -/
theorem root_set {w0 W : World} {t g cap : Nat} (h : TR w0 t [bare] (.slice (some ⟨g, 0, none⟩) 1 cap) W) : TR w0 t [root] (.slice (some ⟨g, 0, none⟩) 1 cap) ((W.setCell ⟨g, 3, none⟩ (.slice (some ⟨W.heap.size, 0, none⟩) 1 1)).alloc (.cells #[.string xm.f0, .string xm.f1] 130)) := by
  have hbs := below_size h.bel
  have hA := below_alloc (Below.refl W.heap.size W) (.cells #[.string xm.f0, .string xm.f1] 130)
  have hR := Kd.R_below h.row hA
  obtain ⟨g2, cap2, e2, hb2, hl2, cs, hcs⟩ := Kd.R_form h.row (by decide)
  injection e2 with e2 _ _
  injection e2 with e2
  injection e2 with e2 _ _
  subst e2
  have hC := (Kd.R_reads' hR).2.2
  obtain ⟨ad, A3, c3, ea, c0, c1, c2, c3', _⟩ := at_T133 hC 0 (by decide) (by decide)
  obtain rfl := Option.some.inj ea
  have hS := Kd.R_seg hR (okp := fun k => k = W.heap.size) 0 (by decide) (by decide) (c := [.int .i64 (-1), .string nDoc, .string ⟨#[]⟩, .slice A3 0 c3]) (seg := [.slice (some ⟨W.heap.size, 0, none⟩) 1 1]) (j := 3) rfl (fun j u hu => by
      match j, hu with
      | 0, hu => rw [← Option.some.inj hu]; exact c0
      | 1, hu => rw [← Option.some.inj hu]; exact c1
      | 2, hu => rw [← Option.some.inj hu]; exact c2
      | 3, hu => rw [← Option.some.inj hu]; exact c3'
      | n + 4, hu => cases hu) (by show 3 + 1 ≤ 4; decide) (x' := root) (k133_mkM _ _ _ root (attr_lit W w0.heap.size _ hbs rfl)) (fun k hk => ⟨trivial, by rw [hk]; omega⟩)
  rw [← World.setCell_alloc_past _ _ _ _ hl2]
  have ht : t ≠ g := fun e => by
    have := h.cell
    rw [e, hcs] at this
    injection (Option.some.inj this) with _ h2 _
    exact absurd h2 (by decide)
  refine ⟨?_, ?_, ?_, h.lo⟩
  · exact (Below.heap_setCell _ _ _ _ (by show t ≠ g; exact ht)).trans (blk_below h.cell hA)
  · exact hS.1
  · exact below_set (below_step h.bel hA) (by show w0.heap.size ≤ g; exact hb2)
end Go.Proofs.YthapknnppabdaaaGreat.MQ
namespace Go.Proofs.YthapknnppabdaaaGreat.MQ
open Go.RowKit Go.Proofs.YthapknnppabdaaaGreatW.PrintWords Go.Proofs.YthapknnppabdaaaGreatW.PrintLast Go.Proofs.YthapknnppabdaaaGreatW.PrintMore
attribute [local go_sem] max2_int min2_int max_two min_two max_three min_three max_four min_four
set_option linter.unusedVariables false
set_option linter.unusedSimpArgs false


def T54_25 : Bool × List (List Nat × List Nat) := (true, [([], []), ([], []), ([], []), ([1, 2], [1, 2]), ([], []), ([4], [4]), ([5], [5]), ([], []), ([7], [7]), ([8], [8]), ([0, 3, 6, 9, 3], [0, 3, 6, 9])])
def B54_25 : List Nat := [0, 0, 0, 6, 0, 16, 48, 0, 128, 384, 1023]
theorem tab54_25 : rtab .any (opsOf Tryz.f54 25) = T54_25 := by kernel_rfl
theorem bits54_25 : waitsOk T54_25.2 B54_25 = true := by kernel_rfl

def nHdr : ByteArray := ⟨#[72, 100, 114]⟩
def nMsgFctn : ByteArray := ⟨#[77, 115, 103, 70, 99, 116, 110]⟩
def nInitgPty : ByteArray := ⟨#[73, 110, 105, 116, 103, 80, 116, 121]⟩
def nBody : ByteArray := ⟨#[66, 111, 100, 121]⟩
def nPAN : ByteArray := ⟨#[80, 65, 78]⟩
def nTtlAmt : ByteArray := ⟨#[84, 116, 108, 65, 109, 116]⟩
def nCcy : ByteArray := ⟨#[67, 99, 121]⟩
def nRRN : ByteArray := ⟨#[82, 82, 78]⟩
def nMrchntId : ByteArray := ⟨#[77, 114, 99, 104, 110, 116, 73, 100]⟩
def nTermnlId : ByteArray := ⟨#[84, 101, 114, 109, 110, 108, 73, 100]⟩
def nNtryMd : ByteArray := ⟨#[78, 116, 114, 121, 77, 100]⟩
def nRspn : ByteArray := ⟨#[82, 115, 112, 110]⟩
def nRspnRsn : ByteArray := ⟨#[82, 115, 112, 110, 82, 115, 110]⟩
def nAuthstnCd : ByteArray := ⟨#[65, 117, 116, 104, 115, 116, 110, 67, 100]⟩
def nRsn : ByteArray := ⟨#[82, 115, 110]⟩
def nOrgnlTx : ByteArray := ⟨#[79, 114, 103, 110, 108, 84, 120]⟩
def nICCData : ByteArray := ⟨#[73, 67, 67, 68, 97, 116, 97]⟩
def nNote : ByteArray := ⟨#[78, 111, 116, 101]⟩
def nSplmtryData : ByteArray := ⟨#[83, 112, 108, 109, 116, 114, 121, 68, 97, 116, 97]⟩
def nNm : ByteArray := ⟨#[78, 109]⟩
def nVal : ByteArray := ⟨#[86, 97, 108]⟩
def nRsdlKey : ByteArray := ⟨#[82, 115, 100, 108, 75, 101, 121]⟩
def rowM (x : S29) (v16 v19 v20 : Value) : Array Value := #[.int .i64 x.f0, .int .i64 x.f1, .string x.f2, .string x.f3, .string x.f4, .string x.f5, .int .u64 x.f6, .string x.f7, .string x.f8, .string x.f9, .string x.f10, .int .i64 x.f11, .string x.f12, .string x.f13, .int .i64 x.f14.f0, .string x.f14.f1, v16, .string x.f16, .string x.f17, v19, v20]
/-- A message of which a tree can be made. -/
structure MIn (x : S29) : Prop where
  tags : TagsOK x.f15
  tin : TagsIn x.f15
  stan : 0 ≤ x.f1 ∧ x.f1 ≤ 999999
  ent : 0 ≤ x.f11 ∧ x.f11 ≤ 999
  ost : 0 ≤ x.f14.f0 ∧ x.f14.f0 ≤ 999999
  amt : 0 ≤ x.f6 ∧ x.f6 ≤ 999999999999
  z2 : x.f2.size ≤ 140737488355328
  z14 : x.f14.f1.size ≤ 140737488355328
  ext : x.f18.length ≤ 4
def base7 (x : S29) : List S133 := [root, ⟨0, nHdr, ⟨#[]⟩, []⟩, ⟨1, nMsgFctn, (rowOf x.f0).f0, []⟩] ++ origL 1 x.f1 x.f2 ++ [⟨1, nInitgPty, x.f3, []⟩, ⟨0, nBody, ⟨#[]⟩, []⟩]
def curL (x : S29) : List S133 := if x.f5.toList = [] then [] else [⟨6, nTtlAmt, amtS x.f6, []⟩, ⟨6, nCcy, x.f5, []⟩]
def entL (x : S29) : List S133 := if x.f11 = 0 then [] else [⟨6, nNtryMd, decS x.f11, []⟩]
def orgAt (x : S29) (n : Int) : List S133 := if x.f14.f1.toList = [] then [] else [⟨6, nOrgnlTx, ⟨#[]⟩, []⟩] ++ origL n x.f14.f0 x.f14.f1
def partA (x : S29) : List S133 := base7 x ++ opt 6 nPAN x.f4 ++ curL x ++ opt 6 nRRN x.f7 ++ opt 6 nMrchntId x.f8 ++ opt 6 nTermnlId x.f9 ++ entL x ++ opt 6 nRspn (wordsF x.f12).1 ++ opt 6 nRspnRsn (wordsF x.f12).2.1 ++ opt 6 nAuthstnCd x.f10 ++ opt 6 nRsn x.f13
def partB (x : S29) (hx : ByteArray) : List S133 := partA x ++ orgAt x (partA x).length ++ opt 6 nICCData hx ++ opt 6 nNote x.f17
def addX (L : List S133) (y : S48) : List S133 := L ++ [⟨6, nSplmtryData, ⟨#[]⟩, []⟩, ⟨L.length, nNm, y.f0, []⟩, ⟨L.length, nVal, y.f1, []⟩]
def nodesF (x : S29) (hx : ByteArray) : List S133 := x.f18.foldl addX (partB x hx) ++ opt 6 nRsdlKey x.f16
theorem opt_len (p : Int) (n t : ByteArray) : (opt p n t).length ≤ 1 := by unfold opt; split <;> simp
theorem cur_len (x : S29) : (curL x).length ≤ 2 := by unfold curL; split <;> simp
theorem ent_len (x : S29) : (entL x).length ≤ 1 := by unfold entL; split <;> simp
theorem org_len (x : S29) (n : Int) : (orgAt x n).length ≤ 3 := by unfold orgAt; split <;> simp [origL]
theorem base_len (x : S29) : (base7 x).length = 7 := rfl
theorem addX_len (L : List S133) (y : S48) : (addX L y).length = L.length + 3 := by unfold addX; rw [List.length_append]; rfl
theorem foldX_len (l : List S48) : ∀ L, (l.foldl addX L).length = L.length + 3 * l.length := by
  induction l with
  | nil => intro L; rfl
  | cons y l ih => intro L; rw [List.foldl_cons, ih, addX_len, List.length_cons]; omega
def NodesEnd (x : S29) (w : World) (e : Ending) (w' : World) : Prop := ∃ (hx : ByteArray) (n : Nat) (A : Option Addr) (c : Nat), HexOf n hx ∧ n ≤ tagsLen x.f15 ∧ x.f15.length ≤ n ∧ e = .returned (.slice A (nodesF x hx).length c) ∧ k133.C w' A (nodesF x hx).length (nodesF x hx) ∧ (nodesF x hx).length ≤ c ∧ Below w.heap.size w w'
theorem tagsLen_le {l : List S46} (h : TagsOK l) : tagsLen l ≤ 5180 := by
  have H : ∀ k : Nat, k ≤ l.length → tagsLen (l.take k) ≤ 259 * k := by
    intro k
    induction k with
    | zero => intro _; exact Nat.le_refl _
    | succ k ih =>
      intro hk
      rw [tagsLen_succ (by omega)]
      have := ih (by omega)
      have := (h.2 k (by omega)).2.2
      omega
  have := H l.length (Nat.le_refl _)
  rw [List.take_of_length_le (Nat.le_refl _)] at this
  have := h.1
  omega
theorem info29' : (Tryz.prog.info? 29).map (·.size) = some 21 := by kernel_rfl
set_option maxHeartbeats 32000000 in
set_option maxRecDepth 100000 in
theorem nodes_e (x : S29) (A16 : Option Addr) (c16 : Nat) (A19 : Option Addr) (c19 : Nat) (A20 : Option Addr) (c20 : Nat) (w : World) (hx : MIn x) (l16 : x.f15.length ≤ c16) (g16 : k46.C w A16 x.f15.length x.f15) (l19 : x.f18.length ≤ c19) (g19 : k48.C w A19 x.f18.length x.f18) :
    Calls Tryz.prog 54 #[.agg (rowM x (.slice A16 x.f15.length c16) (.slice A19 x.f18.length c19) (.slice A20 x.f19.length c20))] w (NodesEnd x w) := by
  have HX := Aside0.mk hx
  have HG := Aside0.mk (And.intro l16 (And.intro g16 (And.intro l19 g19)))
  clear hx l16 g16 l19 g19
  go_enter Tryz.func54, Tryz.ntmps54
  go_upto_region 1 with fail
  obtain ⟨mc, hmc⟩ : ∃ m, m = rowM x (.slice A16 x.f15.length c16) (.slice A19 x.f18.length c19) (.slice A20 x.f19.length c20) := ⟨_, rfl⟩
  rw [← hmc]
  have HMC := Aside0.mk hmc
  clear hmc
  obtain ⟨p, hp⟩ : ∃ p, p = w.heap.size := ⟨_, rfl⟩
  have J0 : (w.alloc (.cells mc 29)).heap[w.heap.size]? = some (.cells mc 29 (0, 0)) ∧ Below w.heap.size w (w.alloc (.cells mc 29)) := ⟨blk_new w _, below_alloc (Below.refl _ w) _⟩
  rw [← hp] at J0 ⊢
  revert J0
  generalize w.alloc (.cells mc 29) = w0
  intro J0
  have BW0 := Aside0.mk (show Below w.heap.size w w0 by rw [← hp]; exact J0.2)
  have MB : Aside0 (∀ W, Below w0.heap.size w0 W → W.heap[p]? = some (.cells (rowM x (.slice A16 x.f15.length c16) (.slice A19 x.f18.length c19) (.slice A20 x.f19.length c20)) 29 (0, 0))) := ⟨fun W hW => by rw [← HMC.out]; exact blk_below J0.1 hW⟩
  clear J0 hp
  go_upto_region 2 with fail
  obtain ⟨t, ht⟩ : ∃ t, t = w0.heap.size := ⟨_, rfl⟩
  have T0 : TR w0 t [] (.slice none 0 0) (w0.alloc (.cells #[.slice none 0 0] 127)) := ⟨by rw [ht]; exact blk_new w0 _, Kd.R_nil _ _ _ _ _, below_alloc (Below.refl _ w0) _, by omega⟩
  rw [← ht]
  revert T0
  generalize w0.alloc (.cells #[.slice none 0 0] 127) = w1
  intro T0
  have TT := Aside0.mk T0
  clear T0 ht
  go_wp2_with fail
  refine (add_e w0 _ t _ _ (-1) nDoc ⟨#[]⟩ TT.out (by decide)).mono ?_
  rintro e w2 ⟨v2, rfl, h⟩
  have TU := Aside0.mk h; clear h TT; have TT := TU; clear TU
  rw [List.nil_append] at TT
  obtain ⟨g, cap, ev, _⟩ := Kd.R_form TT.out.row (by decide)
  subst ev
  have d0 := (blk_cell TT.out.cell 0).trans (show _ = some (Value.slice (some ⟨g, 0, none⟩) 1 cap) from rfl)
  obtain ⟨ad, A3, c3, ea, _, _, _, c3', _⟩ := at_T133 (Kd.R_reads' TT.out.row).2.2 0 (by decide) (by decide)
  obtain rfl := Option.some.inj ea
  have c3'' : w2.cell? ⟨g, 3, none⟩ = some (.slice A3 0 c3) := c3'
  obtain ⟨g2, _, eg, _, _, cs, hcs⟩ := Kd.R_form TT.out.row (by decide)
  obtain rfl : g = g2 := by injection eg with eg _ _; injection eg with eg; injection eg
  have z3 := blk_frozen hcs 3
  go_upto_region 4 with fail
  have TU : Aside0 (TR w0 t [root] (.slice (some ⟨g, 0, none⟩) 1 cap) _) := ⟨root_set TT.out⟩
  clear TT d0 c3' c3'' hcs z3 ea
  change Code.wp _ _ _ _ ((w2.setCell ⟨g, 3, none⟩ (.slice (some ⟨w2.heap.size, 0, none⟩) 1 1)).alloc (.cells #[.string xm.f0, .string xm.f1] 130))
  revert TU
  generalize ((w2.setCell ⟨g, 3, none⟩ (.slice (some ⟨w2.heap.size, 0, none⟩) 1 1)).alloc (.cells #[.string xm.f0, .string xm.f1] 130)) = w3
  intro TT
  have HL : Aside0 (([root] : List S133).length ≤ 1) := ⟨by decide⟩
  go_wp2_with fail
  refine (add_e w0 _ t _ _ 0 nHdr ⟨#[]⟩ TT.out (by have := HL.out; omega)).mono ?_
  rintro e w4 ⟨v4, rfl, h⟩
  have TU := Aside0.mk h; clear h TT; have TT := TU; clear TU
  have HM : Aside0 ((([root] : List S133) ++ ([⟨0, nHdr, ⟨#[]⟩, []⟩] : List S133)).length ≤ 2) := ⟨by rw [List.length_append]; have := HL.out; have := (show ([⟨0, nHdr, ⟨#[]⟩, []⟩] : List S133).length ≤ 1 from Nat.le_refl _); omega⟩
  clear HL; have HL := HM; clear HM
  rw [show (([root] : List S133).length : Int) = 1 from rfl]
  have q0 := (blk_cell (MB.out _ TT.out.bel) 0).trans (show _ = some (Value.int .i64 x.f0) from rfl)
  go_wp2_with fail
  refine (code_e x.f0 _).mono ?_
  rintro e w5 ⟨rfl, hb⟩
  have TU := Aside0.mk (TT.out.below hb); clear hb TT; have TT := TU; clear TU
  clear q0
  go_wp2_with fail
  refine (add_e w0 _ t _ _ 1 nMsgFctn (rowOf x.f0).f0 TT.out (by have := HL.out; omega)).mono ?_
  rintro e w6 ⟨v6, rfl, h⟩
  have TU := Aside0.mk h; clear h TT; have TT := TU; clear TU
  have HM : Aside0 ((([root] : List S133) ++ ([⟨0, nHdr, ⟨#[]⟩, []⟩] : List S133) ++ ([⟨1, nMsgFctn, (rowOf x.f0).f0, []⟩] : List S133)).length ≤ 3) := ⟨by rw [List.length_append]; have := HL.out; have := (show ([⟨1, nMsgFctn, (rowOf x.f0).f0, []⟩] : List S133).length ≤ 1 from Nat.le_refl _); omega⟩
  clear HL; have HL := HM; clear HM
  have q1 := (blk_cell (MB.out _ TT.out.bel) 1).trans (show _ = some (Value.int .i64 x.f1) from rfl)
  have q2 := (blk_cell (MB.out _ TT.out.bel) 2).trans (show _ = some (Value.string x.f2) from rfl)
  go_wp2_with fail
  refine (origin_e w0 _ t _ _ 1 x.f1 x.f2 TT.out (by have := HL.out; omega) HX.out.stan.1 HX.out.stan.2 HX.out.z2).mono ?_
  rintro e w7 ⟨v7, rfl, h⟩
  have TU := Aside0.mk h; clear h TT; have TT := TU; clear TU
  clear q1 q2
  have HM : Aside0 ((([root] : List S133) ++ ([⟨0, nHdr, ⟨#[]⟩, []⟩] : List S133) ++ ([⟨1, nMsgFctn, (rowOf x.f0).f0, []⟩] : List S133) ++ origL 1 x.f1 x.f2).length ≤ 5) := ⟨by rw [List.length_append]; have := HL.out; have := (show (origL 1 x.f1 x.f2).length ≤ 2 from Nat.le_refl _); omega⟩
  clear HL; have HL := HM; clear HM
  have q3 := (blk_cell (MB.out _ TT.out.bel) 3).trans (show _ = some (Value.string x.f3) from rfl)
  go_wp2_with fail
  refine (add_e w0 _ t _ _ 1 nInitgPty x.f3 TT.out (by have := HL.out; omega)).mono ?_
  rintro e w8 ⟨v8, rfl, h⟩
  have TU := Aside0.mk h; clear h TT; have TT := TU; clear TU
  clear q3
  have HM : Aside0 ((([root] : List S133) ++ ([⟨0, nHdr, ⟨#[]⟩, []⟩] : List S133) ++ ([⟨1, nMsgFctn, (rowOf x.f0).f0, []⟩] : List S133) ++ origL 1 x.f1 x.f2 ++ ([⟨1, nInitgPty, x.f3, []⟩] : List S133)).length ≤ 6) := ⟨by rw [List.length_append]; have := HL.out; have := (show ([⟨1, nInitgPty, x.f3, []⟩] : List S133).length ≤ 1 from Nat.le_refl _); omega⟩
  clear HL; have HL := HM; clear HM
  go_wp2_with fail
  refine (add_e w0 _ t _ _ 0 nBody ⟨#[]⟩ TT.out (by have := HL.out; omega)).mono ?_
  rintro e w9 ⟨v9, rfl, h⟩
  have TU := Aside0.mk h; clear h TT; have TT := TU; clear TU
  have HM : Aside0 ((([root] : List S133) ++ ([⟨0, nHdr, ⟨#[]⟩, []⟩] : List S133) ++ ([⟨1, nMsgFctn, (rowOf x.f0).f0, []⟩] : List S133) ++ origL 1 x.f1 x.f2 ++ ([⟨1, nInitgPty, x.f3, []⟩] : List S133) ++ ([⟨0, nBody, ⟨#[]⟩, []⟩] : List S133)).length ≤ 7) := ⟨by rw [List.length_append]; have := HL.out; have := (show ([⟨0, nBody, ⟨#[]⟩, []⟩] : List S133).length ≤ 1 from Nat.le_refl _); omega⟩
  clear HL; have HL := HM; clear HM
  rw [show ((([root] : List S133) ++ ([⟨0, nHdr, ⟨#[]⟩, []⟩] : List S133) ++ ([⟨1, nMsgFctn, (rowOf x.f0).f0, []⟩] : List S133) ++ origL 1 x.f1 x.f2 ++ ([⟨1, nInitgPty, x.f3, []⟩] : List S133)).length : Int) = 6 from rfl]
  have TU : Aside0 (TR w0 t (base7 x) _ _) := ⟨TT.out⟩; clear TT; have TT := TU; clear TU; clear HL; have HL : Aside0 ((base7 x).length ≤ 7) := ⟨Nat.le_refl _⟩
  have q4 := (blk_cell (MB.out _ TT.out.bel) 4).trans (show _ = some (Value.string x.f4) from rfl)
  go_wp2_with fail
  refine (some_e w0 _ t _ _ 6 nPAN x.f4 TT.out (by have := HL.out; omega)).mono ?_
  rintro e w10 ⟨v10, rfl, h⟩
  have TU := Aside0.mk h; clear h TT; have TT := TU; clear TU
  clear q4
  have HM : Aside0 ((base7 x ++ opt 6 nPAN x.f4).length ≤ 8) := ⟨by rw [List.length_append]; have := HL.out; have := opt_len 6 nPAN x.f4; omega⟩
  clear HL; have HL := HM; clear HM
  have q5 := (blk_cell (MB.out _ TT.out.bel) 5).trans (show _ = some (Value.string x.f5) from rfl)
  go_upto_if 56 with fail
  go_cut [6, 7] from 54 to 71 (fun s6 s7 wc => ∃ v, Aside0 (TR w0 t (base7 x ++ opt 6 nPAN x.f4 ++ curL x) v wc))
  case first =>
    by_cases c5 : x.f5.toList = []
    · have b5 : (x.f5.toList == ([] : List UInt8)) = true := beq_iff_eq.mpr c5
      have b5e : x.f5.toList.isEmpty = true := by rw [c5]; rfl
      have HQ : Aside0 (curL x = []) := ⟨by unfold curL; rw [if_pos c5]⟩
      replace c5 := Aside0.mk c5
      rw [b5e]
      clear b5
      go_wp2_with fail
      go_meet
      exact ⟨_, ⟨by rw [HQ.out, List.append_nil]; exact TT.out⟩⟩
    · have b5 : (x.f5.toList == ([] : List UInt8)) = false := beq_eq_false_iff_ne.mpr c5
      have b5e : x.f5.toList.isEmpty = false := by cases h : x.f5.toList with | nil => exact absurd h c5 | cons a l => rfl
      have HQ : Aside0 (curL x = [⟨6, nTtlAmt, amtS x.f6, []⟩, ⟨6, nCcy, x.f5, []⟩]) := ⟨by unfold curL; rw [if_neg c5]⟩
      replace c5 := Aside0.mk c5
      rw [b5e]
      clear b5
      have q6 := (blk_cell (MB.out _ TT.out.bel) 6).trans (show _ = some (Value.int .u64 x.f6) from rfl)
      go_wp2_with fail
      refine (amountText_e x.f6 _ HX.out.amt.1 (by have := HX.out.amt.2; omega)).mono ?_
      rintro e w11 ⟨rfl, hb⟩
      have TU := Aside0.mk (TT.out.below hb); clear hb TT; have TT := TU; clear TU
      clear q5 q6
      go_wp2_with fail
      refine (add_e w0 _ t _ _ 6 nTtlAmt (amtS x.f6) TT.out (by have := HL.out; omega)).mono ?_
      rintro e w12 ⟨v12, rfl, h⟩
      have TU := Aside0.mk h; clear h TT; have TT := TU; clear TU
      have HM : Aside0 ((base7 x ++ opt 6 nPAN x.f4 ++ ([⟨6, nTtlAmt, (amtS x.f6), []⟩] : List S133)).length ≤ 9) := ⟨by rw [List.length_append]; have := HL.out; have := (show ([⟨6, nTtlAmt, (amtS x.f6), []⟩] : List S133).length ≤ 1 from Nat.le_refl _); omega⟩
      clear HL; have HL := HM; clear HM
      have q5 := (blk_cell (MB.out _ TT.out.bel) 5).trans (show _ = some (Value.string x.f5) from rfl)
      go_wp2_with fail
      refine (add_e w0 _ t _ _ 6 nCcy x.f5 TT.out (by have := HL.out; omega)).mono ?_
      rintro e w13 ⟨v13, rfl, h⟩
      have TU := Aside0.mk h; clear h TT; have TT := TU; clear TU
      clear q5
      have HM : Aside0 ((base7 x ++ opt 6 nPAN x.f4 ++ ([⟨6, nTtlAmt, (amtS x.f6), []⟩] : List S133) ++ ([⟨6, nCcy, x.f5, []⟩] : List S133)).length ≤ 10) := ⟨by rw [List.length_append]; have := HL.out; have := (show ([⟨6, nCcy, x.f5, []⟩] : List S133).length ≤ 1 from Nat.le_refl _); omega⟩
      clear HL; have HL := HM; clear HM
      go_wp2_with fail
      go_meet
      exact ⟨_, ⟨by rw [HQ.out]; have := TT.out; rw [List.append_assoc] at this; exact this⟩⟩
  case rest =>
    obtain ⟨v, TU⟩ := hcut
    clear TT q5; have TT := TU; clear TU
    have HM : Aside0 ((base7 x ++ opt 6 nPAN x.f4 ++ curL x).length ≤ 10) := ⟨by rw [List.length_append]; have := HL.out; have := cur_len x; omega⟩
    clear HL; have HL := HM; clear HM
    have q7 := (blk_cell (MB.out _ TT.out.bel) 7).trans (show _ = some (Value.string x.f7) from rfl)
    go_wp2_with fail
    refine (some_e w0 _ t _ _ 6 nRRN x.f7 TT.out (by have := HL.out; omega)).mono ?_
    rintro e w14 ⟨v14, rfl, h⟩
    have TU := Aside0.mk h; clear h TT; have TT := TU; clear TU
    clear q7
    have HM : Aside0 ((base7 x ++ opt 6 nPAN x.f4 ++ curL x ++ opt 6 nRRN x.f7).length ≤ 11) := ⟨by rw [List.length_append]; have := HL.out; have := opt_len 6 nRRN x.f7; omega⟩
    clear HL; have HL := HM; clear HM
    have q8 := (blk_cell (MB.out _ TT.out.bel) 8).trans (show _ = some (Value.string x.f8) from rfl)
    go_wp2_with fail
    refine (some_e w0 _ t _ _ 6 nMrchntId x.f8 TT.out (by have := HL.out; omega)).mono ?_
    rintro e w15 ⟨v15, rfl, h⟩
    have TU := Aside0.mk h; clear h TT; have TT := TU; clear TU
    clear q8
    have HM : Aside0 ((base7 x ++ opt 6 nPAN x.f4 ++ curL x ++ opt 6 nRRN x.f7 ++ opt 6 nMrchntId x.f8).length ≤ 12) := ⟨by rw [List.length_append]; have := HL.out; have := opt_len 6 nMrchntId x.f8; omega⟩
    clear HL; have HL := HM; clear HM
    have q9 := (blk_cell (MB.out _ TT.out.bel) 9).trans (show _ = some (Value.string x.f9) from rfl)
    go_wp2_with fail
    refine (some_e w0 _ t _ _ 6 nTermnlId x.f9 TT.out (by have := HL.out; omega)).mono ?_
    rintro e w16 ⟨v16, rfl, h⟩
    have TU := Aside0.mk h; clear h TT; have TT := TU; clear TU
    clear q9
    have HM : Aside0 ((base7 x ++ opt 6 nPAN x.f4 ++ curL x ++ opt 6 nRRN x.f7 ++ opt 6 nMrchntId x.f8 ++ opt 6 nTermnlId x.f9).length ≤ 13) := ⟨by rw [List.length_append]; have := HL.out; have := opt_len 6 nTermnlId x.f9; omega⟩
    clear HL; have HL := HM; clear HM
    have q11 := (blk_cell (MB.out _ TT.out.bel) 11).trans (show _ = some (Value.int .i64 x.f11) from rfl)
    go_upto_if 89 with fail
    go_cut [6] from 87 to 97 (fun s6 wc => ∃ v, Aside0 (TR w0 t (base7 x ++ opt 6 nPAN x.f4 ++ curL x ++ opt 6 nRRN x.f7 ++ opt 6 nMrchntId x.f8 ++ opt 6 nTermnlId x.f9 ++ entL x) v wc))
    case first =>
      rcases (show x.f11 = 0 ∨ 0 < x.f11 by have := HX.out.ent.1; omega) with c11 | c11
      · have HQ : Aside0 (entL x = []) := ⟨by unfold entL; rw [if_pos c11]⟩
        have b11 : (x.f11 == 0) = true := beq_iff_eq.mpr c11
        replace c11 := Aside0.mk c11
        go_wp2_with fail
        go_meet
        exact ⟨_, ⟨by rw [HQ.out, List.append_nil]; exact TT.out⟩⟩
      · have HQ : Aside0 (entL x = [⟨6, nNtryMd, decS x.f11, []⟩]) := ⟨by unfold entL; rw [if_neg (by omega)]⟩
        have b11 : (x.f11 == 0) = false := beq_eq_false_iff_ne.mpr (by omega)
        have c11n : ¬ x.f11 ≤ 0 := by omega
        have ew : IntKind.u64.wrap x.f11 = x.f11 := u64_id (by omega) (by have := HX.out.ent.2; omega)
        go_wp2_with fail
        try rw [ew]
        refine (dec_e x.f11 _ HX.out.ent.1 (by have := HX.out.ent.2; omega)).mono ?_
        rintro e w17 ⟨rfl, hb⟩
        have TU := Aside0.mk (TT.out.below hb); clear hb TT q11; have TT := TU; clear TU
        go_wp2_with fail
        refine (add_e w0 _ t _ _ 6 nNtryMd (decS x.f11) TT.out (by have := HL.out; omega)).mono ?_
        rintro e w18 ⟨v18, rfl, h⟩
        have TU := Aside0.mk h; clear h TT; have TT := TU; clear TU
        have HM : Aside0 ((base7 x ++ opt 6 nPAN x.f4 ++ curL x ++ opt 6 nRRN x.f7 ++ opt 6 nMrchntId x.f8 ++ opt 6 nTermnlId x.f9 ++ ([⟨6, nNtryMd, (decS x.f11), []⟩] : List S133)).length ≤ 14) := ⟨by rw [List.length_append]; have := HL.out; have := (show ([⟨6, nNtryMd, (decS x.f11), []⟩] : List S133).length ≤ 1 from Nat.le_refl _); omega⟩
        clear HL; have HL := HM; clear HM
        go_wp2_with fail
        go_meet
        exact ⟨_, ⟨by rw [HQ.out]; exact TT.out⟩⟩
    case rest =>
      obtain ⟨v, TU⟩ := hcut
      clear TT q11; have TT := TU; clear TU
      have HM : Aside0 ((base7 x ++ opt 6 nPAN x.f4 ++ curL x ++ opt 6 nRRN x.f7 ++ opt 6 nMrchntId x.f8 ++ opt 6 nTermnlId x.f9 ++ entL x).length ≤ 14) := ⟨by rw [List.length_append]; have := HL.out; have := ent_len x; omega⟩
      clear HL; have HL := HM; clear HM
      have q12 := (blk_cell (MB.out _ TT.out.bel) 12).trans (show _ = some (Value.string x.f12) from rfl)
      go_wp2_with fail
      refine (words_e x.f12 _).mono ?_
      rintro e w19 ⟨rfl, hb⟩
      have TU := Aside0.mk (TT.out.below hb); clear hb TT; have TT := TU; clear TU
      clear q12
      go_wp2_with fail
      refine (some_e w0 _ t _ _ 6 nRspn (wordsF x.f12).1 TT.out (by have := HL.out; omega)).mono ?_
      rintro e w20 ⟨v20, rfl, h⟩
      have TU := Aside0.mk h; clear h TT; have TT := TU; clear TU
      have HM : Aside0 ((base7 x ++ opt 6 nPAN x.f4 ++ curL x ++ opt 6 nRRN x.f7 ++ opt 6 nMrchntId x.f8 ++ opt 6 nTermnlId x.f9 ++ entL x ++ opt 6 nRspn (wordsF x.f12).1).length ≤ 15) := ⟨by rw [List.length_append]; have := HL.out; have := opt_len 6 nRspn (wordsF x.f12).1; omega⟩
      clear HL; have HL := HM; clear HM
      go_wp2_with fail
      refine (some_e w0 _ t _ _ 6 nRspnRsn (wordsF x.f12).2.1 TT.out (by have := HL.out; omega)).mono ?_
      rintro e w21 ⟨v21, rfl, h⟩
      have TU := Aside0.mk h; clear h TT; have TT := TU; clear TU
      have HM : Aside0 ((base7 x ++ opt 6 nPAN x.f4 ++ curL x ++ opt 6 nRRN x.f7 ++ opt 6 nMrchntId x.f8 ++ opt 6 nTermnlId x.f9 ++ entL x ++ opt 6 nRspn (wordsF x.f12).1 ++ opt 6 nRspnRsn (wordsF x.f12).2.1).length ≤ 16) := ⟨by rw [List.length_append]; have := HL.out; have := opt_len 6 nRspnRsn (wordsF x.f12).2.1; omega⟩
      clear HL; have HL := HM; clear HM
      have q10 := (blk_cell (MB.out _ TT.out.bel) 10).trans (show _ = some (Value.string x.f10) from rfl)
      go_wp2_with fail
      refine (some_e w0 _ t _ _ 6 nAuthstnCd x.f10 TT.out (by have := HL.out; omega)).mono ?_
      rintro e w22 ⟨v22, rfl, h⟩
      have TU := Aside0.mk h; clear h TT; have TT := TU; clear TU
      clear q10
      have HM : Aside0 ((base7 x ++ opt 6 nPAN x.f4 ++ curL x ++ opt 6 nRRN x.f7 ++ opt 6 nMrchntId x.f8 ++ opt 6 nTermnlId x.f9 ++ entL x ++ opt 6 nRspn (wordsF x.f12).1 ++ opt 6 nRspnRsn (wordsF x.f12).2.1 ++ opt 6 nAuthstnCd x.f10).length ≤ 17) := ⟨by rw [List.length_append]; have := HL.out; have := opt_len 6 nAuthstnCd x.f10; omega⟩
      clear HL; have HL := HM; clear HM
      have q13 := (blk_cell (MB.out _ TT.out.bel) 13).trans (show _ = some (Value.string x.f13) from rfl)
      go_wp2_with fail
      refine (some_e w0 _ t _ _ 6 nRsn x.f13 TT.out (by have := HL.out; omega)).mono ?_
      rintro e w23 ⟨v23, rfl, h⟩
      have TU := Aside0.mk h; clear h TT; have TT := TU; clear TU
      clear q13
      have HM : Aside0 ((base7 x ++ opt 6 nPAN x.f4 ++ curL x ++ opt 6 nRRN x.f7 ++ opt 6 nMrchntId x.f8 ++ opt 6 nTermnlId x.f9 ++ entL x ++ opt 6 nRspn (wordsF x.f12).1 ++ opt 6 nRspnRsn (wordsF x.f12).2.1 ++ opt 6 nAuthstnCd x.f10 ++ opt 6 nRsn x.f13).length ≤ 18) := ⟨by rw [List.length_append]; have := HL.out; have := opt_len 6 nRsn x.f13; omega⟩
      clear HL; have HL := HM; clear HM
      have TU : Aside0 (TR w0 t (partA x) _ _) := ⟨TT.out⟩; clear TT; have TT := TU; clear TU; have HM : Aside0 ((partA x).length ≤ 18) := ⟨HL.out⟩; clear HL; have HL := HM; clear HM
      have q15 := (blk_cell (MB.out _ TT.out.bel) 15).trans (show _ = some (Value.string x.f14.f1) from rfl)
      go_upto_if 126 with fail
      go_cut [6] from 123 to 137 (fun s6 wc => ∃ v, Aside0 (TR w0 t (partA x ++ orgAt x (partA x).length) v wc))
      case first =>
        by_cases c15 : x.f14.f1.toList = []
        · have b15e : x.f14.f1.toList.isEmpty = true := by rw [c15]; rfl
          have HQ : Aside0 (orgAt x (partA x).length = []) := ⟨by unfold orgAt; rw [if_pos c15]⟩
          replace c15 := Aside0.mk c15
          rw [b15e]
          go_wp2_with fail
          go_meet
          exact ⟨_, ⟨by rw [HQ.out, List.append_nil]; exact TT.out⟩⟩
        · have b15e : x.f14.f1.toList.isEmpty = false := by cases h : x.f14.f1.toList with | nil => exact absurd h c15 | cons a l => rfl
          have HQ : Aside0 (orgAt x (partA x).length = [⟨6, nOrgnlTx, ⟨#[]⟩, []⟩] ++ origL (partA x).length x.f14.f0 x.f14.f1) := ⟨by unfold orgAt; rw [if_neg c15]⟩
          replace c15 := Aside0.mk c15
          rw [b15e]
          go_upto_region 25 with fail
          clear q15
          obtain ⟨wq, HWQ⟩ : ∃ W, Aside0 (TR w0 t (partA x) _ W) := ⟨_, TT⟩
          clear HWQ wq
          have TU := Aside0.mk (TT.out.below (below_drew1 (Below.refl _ _))); clear TT; have TT := TU; clear TU
          refine start_ (n := 11) (ds := []) (S := fun w' => w'.cell? ⟨p, 14, none⟩ = some (.int .i64 x.f14.f0) ∧ w'.cell? ⟨p, 15, none⟩ = some (.string x.f14.f1)) (V 11 0) (by rfl) (by rfl) (by kernel_rfl) (⟨(blk_cell (MB.out _ TT.out.bel) 14).trans rfl, (blk_cell (MB.out _ TT.out.bel) 15).trans rfl⟩) (fun hHeld => ?_); refine with_tabW tab54_25 bits54_25 (fun HT_ HW_ => ?_)
          generalize w23.drew = wd at TT hHeld ⊢
          refine pure_ (i := 0) (N := some 127) (v := ?_) (a' := ?_) (V 11 1) rfl rfl (any_of HT_.out (by kernel_rfl)) (fun _ _ _ h => h) (Or.inl ⟨by rfl, ?_⟩) ?_ ?_; rotate_left
          · intro w'; go_simp; with_reducible rfl
          rotate_left
          · simp only [Act.put, List.setIfInBounds_toArray, List.set_cons_zero, List.set_cons_succ, i64_w, i32_w]; rfl
          refine pure_ (i := 1) (N := some 128) (v := ?_) (a' := ?_) (V 11 3) rfl rfl (any_of HT_.out (by kernel_rfl)) (fun _ _ _ h => h) (Or.inl ⟨by rfl, ?_⟩) ?_ ?_; rotate_left
          · intro w'; go_simp; with_reducible rfl
          rotate_left
          · simp only [Act.put, List.setIfInBounds_toArray, List.set_cons_zero, List.set_cons_succ, i64_w, i32_w]; rfl
          refine pure_ (i := 2) (N := some 129) (v := ?_) (a' := ?_) (V 11 7) rfl rfl (any_of HT_.out (by kernel_rfl)) (fun _ _ _ h => h) (Or.inl ⟨by rfl, ?_⟩) ?_ ?_; rotate_left
          · intro w'; go_simp; with_reducible rfl
          rotate_left
          · simp only [Act.put, List.setIfInBounds_toArray, List.set_cons_zero, List.set_cons_succ, i64_w, i32_w]; rfl
          refine pure_ (i := 4) (N := some 131) (v := ?_) (a' := ?_) (V 11 23) rfl rfl (any_of HT_.out (by kernel_rfl)) (fun _ _ _ h => h) (Or.inl ⟨by rfl, ?_⟩) ?_ ?_; rotate_left
          · intro w'; go_simp; with_reducible rfl
          rotate_left
          · simp only [Act.put, List.setIfInBounds_toArray, List.set_cons_zero, List.set_cons_succ, i64_w, i32_w]; rfl
          refine pure_ (i := 5) (N := some 132) (v := ?_) (a' := ?_) (V 11 55) rfl rfl (any_of HT_.out (by kernel_rfl)) (fun _ _ _ h => h) (Or.inl ⟨by rfl, ?_⟩) ?_ ?_; rotate_left
          · intro w'; go_simp; with_reducible rfl
          rotate_left
          · simp only [Act.put, List.setIfInBounds_toArray, List.set_cons_zero, List.set_cons_succ, i64_w, i32_w]; rfl
          refine take_ (i := 6) (N := some 133) (v := ?_) (a' := ?_) (V 11 119) rfl rfl (take_ofW HT_.out HW_.out (by kernel_rfl)) (fun _ _ _ h => h) (Or.inl ⟨by rfl, ?_⟩) hHeld ?_ ?_; rotate_left
          · rintro w' ⟨s0, s1⟩; go_simp; with_reducible rfl
          rotate_left
          · simp only [Act.put, List.setIfInBounds_toArray, List.set_cons_zero, List.set_cons_succ, i64_w, i32_w]; rfl
          refine pure_ (i := 7) (N := some 134) (v := ?_) (a' := ?_) (V 11 247) rfl rfl (any_of HT_.out (by kernel_rfl)) (fun _ _ _ h => h) (Or.inl ⟨by rfl, ?_⟩) ?_ ?_; rotate_left
          · intro w'; go_simp; with_reducible rfl
          rotate_left
          · simp only [Act.put, List.setIfInBounds_toArray, List.set_cons_zero, List.set_cons_succ, i64_w, i32_w]; rfl
          refine pure_ (i := 8) (N := some 135) (v := ?_) (a' := ?_) (V 11 503) rfl rfl (any_of HT_.out (by kernel_rfl)) (fun _ _ _ h => h) (Or.inl ⟨by rfl, ?_⟩) ?_ ?_; rotate_left
          · intro w'; go_simp; with_reducible rfl
          rotate_left
          · simp only [Act.put, List.setIfInBounds_toArray, List.set_cons_zero, List.set_cons_succ, i64_w, i32_w]; rfl
          refine take_ (i := 9) (N := some 136) (v := ?_) (a' := ?_) (V 11 1015) rfl rfl (take_ofW HT_.out HW_.out (by kernel_rfl)) (fun _ _ _ h => h) (Or.inl ⟨by rfl, ?_⟩) hHeld ?_ ?_; rotate_left
          · rintro w' ⟨s0, s1⟩; go_simp; with_reducible rfl
          rotate_left
          · simp only [Act.put, List.setIfInBounds_toArray, List.set_cons_zero, List.set_cons_succ, i64_w, i32_w]; rfl
          refine one_ (i := 3) (N := some 130) (V 11 1023) rfl rfl (one_of HT_.out (by kernel_rfl)) (by decide) (fun K hK => ?_)
          refine goes_ Tryz.func81 (by kernel_rfl) rfl #[.pointer (some ⟨t, 0, none⟩), .int .i64 6, .string nOrgnlTx, .string ⟨#[]⟩] (by rfl) rfl rfl (by (try simp only [List.map_toArray, List.map_cons, List.map_nil]); first | done | rfl) ?_
          with_reducible refine (add_e w0 _ t _ _ 6 nOrgnlTx ⟨#[]⟩ TT.out (by have := HL.out; omega)).mono ?_
          rintro e w103 ⟨vo, rfl, h⟩
          refine ⟨_, rfl, ?_⟩
          have TU := Aside0.mk h; clear h TT hHeld; have TT := TU; clear TU
          refine hK.out _ _ (⟨(blk_cell (MB.out _ TT.out.bel) 14).trans rfl, (blk_cell (MB.out _ TT.out.bel) 15).trans rfl⟩) (fun hHeld => ?_)
          clear hK K
          refine norm_ (a' := ?_) ?_ ?_; rotate_left
          · show Act.put _ (some 130) _ = _; simp only [Act.put, List.setIfInBounds_toArray, List.set_cons_zero, List.set_cons_succ, i64_w, i32_w]; rfl
          refine one_ (i := 10) (N := some 137) (V 11 2047) rfl rfl (one_of HT_.out (by kernel_rfl)) (by decide) (fun K hK => ?_)
          refine goes_ Tryz.func83 (by kernel_rfl) rfl #[.pointer (some ⟨t, 0, none⟩), .int .i64 ((partA x).length : Int), .int .i64 x.f14.f0, .string x.f14.f1] (by rfl) rfl rfl (by (try simp only [List.map_toArray, List.map_cons, List.map_nil]); first | done | rfl) ?_
          with_reducible refine (origin_e w0 _ t _ _ ((partA x).length : Int) x.f14.f0 x.f14.f1 TT.out (by rw [List.length_append]; have := HL.out; have h1 : ([(⟨6, nOrgnlTx, ⟨#[]⟩, []⟩ : S133)]).length = 1 := rfl; omega) HX.out.ost.1 HX.out.ost.2 HX.out.z14).mono ?_
          rintro e w110 ⟨vp, rfl, h⟩
          refine ⟨_, rfl, ?_⟩
          have TU := Aside0.mk h; clear h TT hHeld; have TT := TU; clear TU
          refine hK.out _ _ (⟨(blk_cell (MB.out _ TT.out.bel) 14).trans rfl, (blk_cell (MB.out _ TT.out.bel) 15).trans rfl⟩) (fun hHeld => ?_)
          clear hK K
          refine norm_ (a' := ?_) ?_ ?_; rotate_left
          · show Act.put _ (some 137) _ = _; simp only [Act.put, List.setIfInBounds_toArray, List.set_cons_zero, List.set_cons_succ, i64_w, i32_w]; rfl
          refine done_ (done_of HT_.out (by kernel_rfl)) ?_
          clear hHeld HT_ HW_
          go_wp2_with fail
          go_meet
          exact ⟨_, ⟨by rw [HQ.out, ← List.append_assoc]; exact TT.out⟩⟩
      case rest =>
        obtain ⟨v, TU⟩ := hcut
        clear TT q15; have TT := TU; clear TU
        have HM : Aside0 ((partA x ++ orgAt x (partA x).length).length ≤ 21) := ⟨by rw [List.length_append]; have := HL.out; have := org_len x (partA x).length; omega⟩
        clear HL; have HL := HM; clear HM
        have q16 := (blk_cell (MB.out _ TT.out.bel) 16).trans (show _ = some (Value.slice A16 x.f15.length c16) from rfl)
        go_wp2_with fail
        refine (writeTags_e A16 c16 x.f15 _ (Kd.C_below HG.out.2.1 (below_step BW0.out TT.out.bel)) HG.out.1).mono ?_
        rintro e wt ⟨Ab, b, cb, r, rfl, hr0, hlen, hin, hbc, hbC, hb⟩
        obtain rfl := hr0.2 HX.out.tags
        have HBB := Aside0.mk (And.intro hbc (And.intro hbC (And.intro (hlen rfl) (hin HX.out.tin))))
        have TU := Aside0.mk (TT.out.below hb); clear hb TT hr0 hlen hin hbc hbC q16; have TT := TU; clear TU
        have hb6 : b.length ≤ 1000000 := by have := HBB.out.2.2.1.1; have := tagsLen_le HX.out.tags; omega
        go_wp2_with fail
        refine (hex_e Ab cb b _ HBB.out.2.1 HBB.out.1 hb6 HBB.out.2.2.2).mono ?_
        rintro e wh ⟨hx, rfl, hh, hb⟩
        have HHX := Aside0.mk hh
        have HBN := Aside0.mk HBB.out.2.2.1
        have TU := Aside0.mk (TT.out.below hb); clear hb TT hh; have TT := TU; clear TU
        go_wp2_with fail
        refine (some_e w0 _ t _ _ 6 nICCData hx TT.out (by have := HL.out; omega)).mono ?_
        rintro e w24 ⟨v24, rfl, h⟩
        have TU := Aside0.mk h; clear h TT; have TT := TU; clear TU
        have HM : Aside0 ((partA x ++ orgAt x (partA x).length ++ opt 6 nICCData hx).length ≤ 22) := ⟨by rw [List.length_append]; have := HL.out; have := opt_len 6 nICCData hx; omega⟩
        clear HL; have HL := HM; clear HM
        have q18 := (blk_cell (MB.out _ TT.out.bel) 18).trans (show _ = some (Value.string x.f17) from rfl)
        go_wp2_with fail
        refine (some_e w0 _ t _ _ 6 nNote x.f17 TT.out (by have := HL.out; omega)).mono ?_
        rintro e w25 ⟨v25, rfl, h⟩
        have TU := Aside0.mk h; clear h TT; have TT := TU; clear TU
        clear q18
        have HM : Aside0 ((partA x ++ orgAt x (partA x).length ++ opt 6 nICCData hx ++ opt 6 nNote x.f17).length ≤ 23) := ⟨by rw [List.length_append]; have := HL.out; have := opt_len 6 nNote x.f17; omega⟩
        clear HL; have HL := HM; clear HM
        have TU : Aside0 (TR w0 t (partB x hx) _ _) := ⟨TT.out⟩; clear TT; have TT := TU; clear TU; have HM : Aside0 ((partB x hx).length ≤ 23) := ⟨HL.out⟩; clear HL; have HL := HM; clear HM
        have hx4 := HX.out.ext
        go_wp2_with fail
        go_loopg [13, 14] x.f18.length (fun gg s13 s14 wr => ∃ (kk : Nat) (v : Value), kk ≤ x.f18.length ∧ x.f18.length - kk ≤ gg ∧ s13 = .int .i64 kk ∧ Aside0 (TR w0 t ((x.f18.take kk).foldl addX (partB x hx)) v wr))
        case atStart => exact ⟨0, _, Nat.zero_le _, by omega, rfl, TT⟩
        case round =>
          obtain ⟨kk, v, hkk, hg, rfl, TU⟩ := hrel
          clear TT; have TT := TU; clear TU
          have HM : Aside0 (((x.f18.take kk).foldl addX (partB x hx)).length ≤ 35) := ⟨by rw [foldX_len, List.length_take]; have := HL.out; omega⟩
          clear HL; have HL := HM; clear HM
          by_cases hlt : kk < x.f18.length
          · have hltz : (kk : Int) < (x.f18.length : Int) := by omega
            have hk8 : (kk : Int) ≤ 8 := by omega
            obtain ⟨y, HY⟩ : ∃ y, Aside0 (y = rd_T48 x.f18 (kk : Int)) := ⟨_, ⟨rfl⟩⟩
            have ECELL : Aside0 (∀ W, Below w0.heap.size w0 W → ∃ ad, A19 = some ad ∧ W.cell? (ad.add (kk * 2)) = some (.string y.f0) ∧ W.cell? ⟨(ad.add (kk * 2)).block, (ad.add (kk * 2)).off + 1, none⟩ = some (.string y.f1)) := ⟨fun W hW => by
              obtain ⟨ad, ea, x0, x1⟩ := at_T48 (Kd.C_below HG.out.2.2.2 (below_step BW0.out hW)) (kk : Int) (by omega) hltz
              rw [HY.out]
              exact ⟨ad, ea, x0, x1⟩⟩
            have HFX : Aside0 ((x.f18.take (kk + 1)).foldl addX (partB x hx) = addX ((x.f18.take kk).foldl addX (partB x hx)) y) := ⟨by
              rw [List.take_add_one, List.getElem?_eq_getElem hlt, Option.toList_some, List.foldl_append, HY.out]
              unfold rd_T48
              rw [Int.toNat_natCast, List.getD_eq_getElem?_getD, List.getElem?_eq_getElem hlt, Option.getD_some]
              rfl⟩
            obtain ⟨L, HLL⟩ : ∃ L, Aside0 (L = (x.f18.take kk).foldl addX (partB x hx)) := ⟨_, ⟨rfl⟩⟩
            rw [← HLL.out] at TT HL HFX
            have q19 := (blk_cell (MB.out _ TT.out.bel) 19).trans (show _ = some (Value.slice A19 x.f18.length c19) from rfl)
            go_wp2_with fail
            refine (add_e w0 _ t _ _ 6 nSplmtryData ⟨#[]⟩ TT.out (by have := HL.out; omega)).mono ?_
            rintro e w26 ⟨v26, rfl, h⟩
            have TU := Aside0.mk h; clear h TT; have TT := TU; clear TU
            clear q19
            have HM : Aside0 ((L ++ ([⟨6, nSplmtryData, ⟨#[]⟩, []⟩] : List S133)).length ≤ 36) := ⟨by rw [List.length_append]; have := HL.out; have := (show ([⟨6, nSplmtryData, ⟨#[]⟩, []⟩] : List S133).length ≤ 1 from Nat.le_refl _); omega⟩
            clear HL; have HL := HM; clear HM
            have q19 := (blk_cell (MB.out _ TT.out.bel) 19).trans (show _ = some (Value.slice A19 x.f18.length c19) from rfl)
            obtain ⟨ad, ea, x0, _⟩ := ECELL.out _ TT.out.bel
            rw [ea] at q19
            go_wp2_with fail
            refine (add_e w0 _ t _ _ (L.length : Int) nNm y.f0 TT.out (by have := HL.out; omega)).mono ?_
            rintro e w27 ⟨v27, rfl, h⟩
            have TU := Aside0.mk h; clear h TT; have TT := TU; clear TU
            clear q19
            clear x0
            have HM : Aside0 ((L ++ ([⟨6, nSplmtryData, ⟨#[]⟩, []⟩] : List S133) ++ ([⟨(L.length : Int), nNm, y.f0, []⟩] : List S133)).length ≤ 37) := ⟨by rw [List.length_append]; have := HL.out; have := (show ([⟨(L.length : Int), nNm, y.f0, []⟩] : List S133).length ≤ 1 from Nat.le_refl _); omega⟩
            clear HL; have HL := HM; clear HM
            have q19 := (blk_cell (MB.out _ TT.out.bel) 19).trans (show _ = some (Value.slice A19 x.f18.length c19) from rfl)
            obtain ⟨ad2, ea2, _, x1⟩ := ECELL.out _ TT.out.bel
            rw [ea2] at q19
            go_wp2_with fail
            refine (add_e w0 _ t _ _ (L.length : Int) nVal y.f1 TT.out (by have := HL.out; omega)).mono ?_
            rintro e w28 ⟨v28, rfl, h⟩
            have TU := Aside0.mk h; clear h TT; have TT := TU; clear TU
            clear q19
            clear x1
            go_wp2_with fail
            go_roundg (x.f18.length - (kk + 1))
            case measure => omega
            case rel => exact ⟨kk + 1, _, by omega, by omega, by go_num, ⟨by rw [HFX.out]; unfold addX; have := TT.out; rw [List.append_assoc, List.append_assoc] at this; exact this⟩⟩
          · have hltz : ¬ (kk : Int) < (x.f18.length : Int) := by omega
            have hfull : x.f18.take kk = x.f18 := List.take_of_length_le (by omega)
            rw [hfull] at TT HL
            clear hfull
            have q19 := (blk_cell (MB.out _ TT.out.bel) 19).trans (show _ = some (Value.slice A19 x.f18.length c19) from rfl)
            go_upto_region 35 with fail
            clear q19
            have q17 := (blk_cell (MB.out _ TT.out.bel) 17).trans (show _ = some (Value.string x.f16) from rfl)
            go_wp2_with fail
            refine (some_e w0 _ t _ _ 6 nRsdlKey x.f16 TT.out (by have := HL.out; omega)).mono ?_
            rintro e w29 ⟨v29, rfl, h⟩
            have TU := Aside0.mk h; clear h TT; have TT := TU; clear TU
            clear q17
            have HM : Aside0 ((x.f18.foldl addX (partB x hx) ++ opt 6 nRsdlKey x.f16).length ≤ 36) := ⟨by rw [List.length_append]; have := HL.out; have := opt_len 6 nRsdlKey x.f16; omega⟩
            clear HL; have HL := HM; clear HM
            have TU : Aside0 (TR w0 t (nodesF x hx) _ _) := ⟨TT.out⟩
            clear TT; have TT := TU; clear TU
            have d0 := (blk_cell TT.out.cell 0).trans rfl
            obtain ⟨A1, c1, e1, hc1, hC1⟩ := Kd.R_reads TT.out.row
            have HF := Aside0.mk (And.intro hc1 hC1)
            clear hc1 hC1
            subst e1
            go_wp2_with fail
            go_ret
            exact ⟨hx, b.length, A1, c1, HHX.out, HBN.out.1, HBN.out.2, rfl, HF.out.2, HF.out.1, below_step BW0.out TT.out.bel⟩
end Go.Proofs.YthapknnppabdaaaGreat.MQ
namespace Go.Proofs.YthapknnppabdaaaGreat.MQ
open Go.RowKit Go.Proofs.YthapknnppabdaaaGreatW.PrintWords Go.Proofs.YthapknnppabdaaaGreatW.PrintLast Go.Proofs.YthapknnppabdaaaGreatW.PrintMore
set_option linter.unusedVariables false
set_option linter.unusedSimpArgs false
/-- A part of a body: a leaf, or two leaves in a node of their own. -/
inductive Item where
  | leaf (nm tx : ByteArray)
  | sub (nm n1 t1 n2 t2 : ByteArray)
def Item.nam : Item → ByteArray
  | .leaf nm _ => nm
  | .sub nm _ _ _ _ => nm
def Item.len : Item → Nat
  | .leaf _ _ => 1
  | .sub _ _ _ _ _ => 3
def Item.at (k : Nat) : Item → List S133
  | .leaf nm tx => [⟨6, nm, tx, []⟩]
  | .sub nm n1 t1 n2 t2 => [⟨6, nm, ⟨#[]⟩, []⟩, ⟨(k : Int), n1, t1, []⟩, ⟨(k : Int), n2, t2, []⟩]
def flat : Nat → List Item → List S133
  | _, [] => []
  | k, it :: r => it.at k ++ flat (k + it.len) r
def lenI (l : List Item) : Nat := (l.map Item.len).sum
theorem at_len (k : Nat) (it : Item) : (it.at k).length = it.len := by cases it <;> rfl
theorem flat_len (l : List Item) : ∀ k, (flat k l).length = lenI l := by
  induction l with
  | nil => intro k; rfl
  | cons it r ih => intro k; show (it.at k ++ flat (k + it.len) r).length = _; rw [List.length_append, ih, at_len]; rfl
theorem flat_app (a b : List Item) : ∀ k, flat k (a ++ b) = flat k a ++ flat (k + lenI a) b := by
  induction a with
  | nil => intro k; rfl
  | cons it r ih =>
    intro k
    show it.at k ++ flat (k + it.len) (r ++ b) = it.at k ++ flat (k + it.len) r ++ flat (k + (it.len + lenI r)) b
    rw [ih, List.append_assoc, Nat.add_assoc]
def optI (nm tx : ByteArray) : List Item := if tx.toList = [] then [] else [.leaf nm tx]
theorem flat_opt (k : Nat) (nm tx : ByteArray) : flat k (optI nm tx) = opt 6 nm tx := by unfold optI opt; split <;> rfl
def curI (x : S29) : List Item := if x.f5.toList = [] then [] else [.leaf nTtlAmt (amtS x.f6), .leaf nCcy x.f5]
theorem flat_cur (k : Nat) (x : S29) : flat k (curI x) = curL x := by unfold curI curL; split <;> rfl
def entI (x : S29) : List Item := if x.f11 = 0 then [] else [.leaf nNtryMd (decS x.f11)]
theorem flat_ent (k : Nat) (x : S29) : flat k (entI x) = entL x := by unfold entI entL; split <;> rfl
def orgI (x : S29) : List Item := if x.f14.f1.toList = [] then [] else [.sub nOrgnlTx nXchgId (decS x.f14.f0) nCreDtTm (textF x.f14.f1)]
theorem flat_org (k : Nat) (x : S29) : flat k (orgI x) = orgAt x k := by unfold orgI orgAt; split <;> rfl
def extI (x : S29) : List Item := x.f18.map fun y => .sub nSplmtryData nNm y.f0 nVal y.f1
theorem flat_ext (l : List S48) : ∀ L : List S133, l.foldl addX L = L ++ flat L.length (l.map fun y => .sub nSplmtryData nNm y.f0 nVal y.f1) := by
  induction l with
  | nil => intro L; simp [flat]
  | cons y l ih =>
    intro L
    rw [List.foldl_cons, ih, addX_len]
    show addX L y ++ _ = L ++ (Item.at L.length (.sub nSplmtryData nNm y.f0 nVal y.f1) ++ flat (L.length + 3) _)
    unfold addX
    rw [List.append_assoc]
    rfl
def itemsA (x : S29) : List Item := optI nPAN x.f4 ++ (curI x ++ (optI nRRN x.f7 ++ (optI nMrchntId x.f8 ++ (optI nTermnlId x.f9 ++ (entI x ++ (optI nRspn (wordsF x.f12).1 ++ (optI nRspnRsn (wordsF x.f12).2.1 ++ (optI nAuthstnCd x.f10 ++ optI nRsn x.f13))))))))
def itemsOf (x : S29) (hx : ByteArray) : List Item := itemsA x ++ (orgI x ++ (optI nICCData hx ++ (optI nNote x.f17 ++ (extI x ++ optI nRsdlKey x.f16))))
theorem partA_is (x : S29) : partA x = base7 x ++ flat 7 (itemsA x) := by
  unfold partA itemsA
  simp only [flat_app, flat_opt, flat_cur, flat_ent, List.append_assoc]
theorem nodes_is (x : S29) (hx : ByteArray) : nodesF x hx = base7 x ++ flat 7 (itemsOf x hx) := by
  have hA := partA_is x
  have hl : (partA x).length = 7 + lenI (itemsA x) := by rw [hA, List.length_append, flat_len]; rfl
  have hB : partB x hx = base7 x ++ flat 7 (itemsA x ++ (orgI x ++ (optI nICCData hx ++ optI nNote x.f17))) := by
    unfold partB
    rw [hl, hA]
    simp only [flat_app, flat_opt, flat_org, List.append_assoc]
  have hlB : (partB x hx).length = 7 + lenI (itemsA x ++ (orgI x ++ (optI nICCData hx ++ optI nNote x.f17))) := by rw [hB, List.length_append, flat_len]; rfl
  unfold nodesF
  rw [flat_ext, hlB, hB]
  have e : itemsOf x hx = (itemsA x ++ (orgI x ++ (optI nICCData hx ++ optI nNote x.f17))) ++ (extI x ++ optI nRsdlKey x.f16) := by unfold itemsOf; simp only [List.append_assoc]
  rw [e, flat_app 
    (itemsA x ++ (orgI x ++ (optI nICCData hx ++ optI nNote x.f17))), flat_app (extI x), flat_opt]
  simp only [List.append_assoc]
  rfl
end Go.Proofs.YthapknnppabdaaaGreat.MQ
