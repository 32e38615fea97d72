-- laid by wip/tools/mixprint.py over the kit's print (functions of function values by hand)
import Derived.Test.YthdjodamdakjbaaProg
import Derived.Below
import Derived.Deep.Draws
import Derived.Deep.AppendLies
import Derived.Maps.AppendAt
import Derived.OwnWalk
import Derived.Laws.BytesArg
import Derived.Laws.MakeOwn
import Derived.Laws.OwnMore
import Derived.Deep.OwnRows
import Derived.Tactics
import Derived.Lib.ConvBytes
import Derived.Laws.Slices
import Derived.WalkKit
import Derived.KernelRfl
import Derived.RowKit3
import Derived.Deep.LoopGhost
import Derived.Deep.QuietTactic
import Derived.BigQuiet
import Derived.WideLaws
import Derived.Deep.DeepCutAuto
import Derived.Deep.CutBlock
import Derived.Deep.RegionHeld3
import Derived.Laws.Rows
import Derived.Lib.AppendStr
import Derived.ArgAppend
import Derived.Laws.IdiomCopy
import Derived.OrdersHeld
import Derived.Laws.BitsLemmas
import Derived.RowKit
import Derived.Test.YthdjodamdakjbaaWWords
import Derived.Test.YthdjodamdakjbaaWLast
import Derived.Test.YthdjodamdakjbaaWTab
import Derived.Test.YthdjodamdakjbaaWFour
import Derived.Test.YthdjodamdakjbaaWQPut
import Derived.Test.YthdjodamdakjbaaWApart
import Derived.Test.YthdjodamdakjbaaWArr
import Derived.Test.YthdjodamdakjbaaWZeros
import Derived.Test.YthdjodamdakjbaaWFoot
import Derived.Test.YthdjodamdakjbaaWKept
import Derived.Test.YthdjodamdakjbaaWShare
import Derived.Test.YthdjodamdakjbaaWN
import Derived.Test.YthdjodamdakjbaaWFootNe
import Derived.Test.YthdjodamdakjbaaWAt
import Derived.Test.YthdjodamdakjbaaWEqStruct
import Derived.Test.YthdjodamdakjbaaWRepsOne
import Derived.Test.YthdjodamdakjbaaWInv
import Derived.Test.YthdjodamdakjbaaWInvWords
import Derived.Test.YthdjodamdakjbaaWGuard
import Derived.Test.YthdjodamdakjbaaWNEv
import Derived.Test.YthdjodamdakjbaaWMore
namespace Go.Proofs.Ythdjodamdakjbaa.MK
open Go.RowKit Go.Proofs.YthdjodamdakjbaaW.PrintWords Go.Proofs.YthdjodamdakjbaaW.PrintLast Go.Proofs.YthdjodamdakjbaaW.PrintMore
attribute [local go_sem] max2_int min2_int max_two min_two max_three min_three max_four min_four   -- for this text's walks alone
set_option linter.unusedVariables false
set_option linter.unusedSimpArgs false



def errW : Option Int → Value
  | none => .nilIface
  | some c => .iface 0 (.int .i64 c)
theorem errW_none : errW none = .nilIface := rfl
theorem errW_some (c : Int) : errW (some c) = .iface 0 (.int .i64 c) := rfl

theorem info4 : (Try.prog.info? 4).map (fun i => (i.zero, i.size, i.bytes)) = some (some (.bool false), 1, 1) := by kernel_rfl
theorem info5 : (Try.prog.info? 5).map (fun i => (i.zero, i.size, i.bytes)) = some (some (.int .u8 0), 1, 1) := by kernel_rfl
theorem info9 : (Try.prog.info? 9).map (fun i => (i.zero, i.size, i.bytes)) = some (some (.string ⟨#[]⟩), 1, 16) := by kernel_rfl
theorem info37 : (Try.prog.info? 37).map (fun i => (i.zero, i.size, i.bytes)) = some (some (.agg #[(.string ⟨#[]⟩), (.string ⟨#[]⟩), (.string ⟨#[]⟩), (.string ⟨#[]⟩)]), 4, 64) := by kernel_rfl
theorem info51 : (Try.prog.info? 51).map (fun i => (i.zero, i.size, i.bytes)) = some (some (.agg #[(.int .i64 0), (.slice none 0 0)]), 2, 32) := by kernel_rfl
theorem info68 : (Try.prog.info? 68).map (fun i => (i.zero, i.size, i.bytes)) = some (some (.agg #[(.string ⟨#[]⟩), (.string ⟨#[]⟩), (.int .i64 0), (.int .i64 0)]), 4, 48) := by kernel_rfl
theorem info92 : (Try.prog.info? 92).map (fun i => (i.zero, i.size, i.bytes)) = some (some (.agg #[(.int .i64 0), (.int .i64 0), (.int .i64 0), (.int .i64 0)]), 4, 32) := by kernel_rfl
-- the values' own types
/-! #### struct type 68 -/
structure S68 where
  f0 : ByteArray
  f1 : ByteArray
  f2 : Int
  f3 : Int
def z68 : S68 := ⟨(⟨#[]⟩ : ByteArray), (⟨#[]⟩ : ByteArray), (0 : Int), (0 : Int)⟩
def k68 : Kd S68 := Kd.iso (Kd.pair Kd.string (Kd.pair Kd.string (Kd.pair (Kd.int .i64) (Kd.int .i64)))) (fun x : S68 => (x.f0, x.f1, x.f2, x.f3))
theorem k68_open {w : World} {x : S68} {cs : List Value} (h : k68.K w x cs) : cs = [.string x.f0, .string x.f1, .int .i64 x.f2, .int .i64 x.f3] := by
  obtain ⟨_, _, rfl, rfl, ⟨_, _, rfl, rfl, ⟨_, _, rfl, rfl, rfl⟩⟩⟩ := h
  exact rfl
theorem k68_openM {w : World} {base : Nat} {ok : Nat → Prop} {x : S68} {cs : List Value} (h : k68.M w base ok x cs) : cs = [.string x.f0, .string x.f1, .int .i64 x.f2, .int .i64 x.f3] := by
  obtain ⟨_, _, rfl, rfl, ⟨_, _, rfl, rfl, ⟨_, _, rfl, rfl, rfl⟩⟩⟩ := h
  exact rfl
theorem k68_mk (w : World) (x : S68)  : k68.K w x [.string x.f0, .string x.f1, .int .i64 x.f2, .int .i64 x.f3] := ⟨[.string x.f0], [.string x.f1, .int .i64 x.f2, .int .i64 x.f3], rfl, rfl, ⟨[.string x.f1], [.int .i64 x.f2, .int .i64 x.f3], rfl, rfl, ⟨[.int .i64 x.f2], [.int .i64 x.f3], rfl, rfl, rfl⟩⟩⟩
theorem k68_mkM (w : World) (base : Nat) (ok : Nat → Prop) (x : S68)  : k68.M w base ok x [.string x.f0, .string x.f1, .int .i64 x.f2, .int .i64 x.f3] := ⟨[.string x.f0], [.string x.f1, .int .i64 x.f2, .int .i64 x.f3], rfl, rfl, ⟨[.string x.f1], [.int .i64 x.f2, .int .i64 x.f3], rfl, rfl, ⟨[.int .i64 x.f2], [.int .i64 x.f3], rfl, rfl, rfl⟩⟩⟩
theorem k68_mkF (W : World) (ok : Nat → Prop) (x : S68) : Kd.FK k68 W ok x [.string x.f0, .string x.f1, .int .i64 x.f2, .int .i64 x.f3] := fun W2 _ => k68_mk W2 x
def rd_T68 (xs : List S68) (i : Int) : S68 := xs.getD i.toNat z68
theorem at_T68 {w : World} {A : Option Addr} {n : Nat} {xs : List S68} (h : Kd.C k68 w A n xs) (i : Int) (h0 : 0 ≤ i) (h1 : i < n) : ∃ ad , A = some ad ∧ w.cell? (ad.add (i.toNat * 4)) = some (.string (rd_T68 xs i).f0) ∧ w.cell? ⟨(ad.add (i.toNat * 4)).block, (ad.add (i.toNat * 4)).off + 1, none⟩ = some (.string (rd_T68 xs i).f1) ∧ w.cell? ⟨(ad.add (i.toNat * 4)).block, (ad.add (i.toNat * 4)).off + 2, none⟩ = some (.int .i64 (rd_T68 xs i).f2) ∧ w.cell? ⟨(ad.add (i.toNat * 4)).block, (ad.add (i.toNat * 4)).off + 3, none⟩ = some (.int .i64 (rd_T68 xs i).f3) := by
  obtain ⟨ad, c, e, _, hK, hc0⟩ := Kd.C_get h z68 i h0 h1
  have hc : ∀ j u, c[j]? = some u → w.cell? (ad.add (i.toNat * 4 + j)) = some u := hc0
  obtain rfl := k68_open hK
  exact ⟨ad, e, hc 0 _ rfl, by rw [← add_field _ _ 1 (by omega)]; exact hc 1 _ rfl, by rw [← add_field _ _ 2 (by omega)]; exact hc 2 _ rfl, by rw [← add_field _ _ 3 (by omega)]; exact hc 3 _ rfl⟩

def rd_L4 (xs : List (List Int)) (i : Int) : (List Int) := xs.getD i.toNat ([] : List Int)
theorem at_L4 {w : World} {A : Option Addr} {n : Nat} {xs : List (List Int)} (h : Kd.C (Kd.slice 5 (Kd.int .u8)) w A n xs) (i : Int) (h0 : 0 ≤ i) (h1 : i < n) : ∃ ad A0 c0, A = some ad ∧ w.cell? (ad.add i.toNat) = some (.slice A0 (rd_L4 xs i).length c0) ∧ (rd_L4 xs i).length ≤ c0 ∧ (Kd.int .u8).C w A0 (rd_L4 xs i).length (rd_L4 xs i) := by
  obtain ⟨ad, c, e, _, hK, hc0⟩ := Kd.C_get h ([] : List Int) i h0 h1
  have hc : ∀ j u, c[j]? = some u → w.cell? (ad.add (i.toNat * 1 + j)) = some u := hc0
  obtain ⟨A0, c0, rfl, l0, g0⟩ := hK
  exact ⟨ad, A0, c0, e, by have hq := hc 0 _ rfl; rwa [Nat.mul_one, Nat.add_zero] at hq, l0, g0⟩

/-! #### struct type 51 -/
structure S51 where
  f0 : Int
  f1 : (List Int)
def z51 : S51 := ⟨(0 : Int), ([] : List Int)⟩
def k51 : Kd S51 := Kd.iso (Kd.pair (Kd.int .i64) (Kd.slice 5 (Kd.int .u8))) (fun x : S51 => (x.f0, x.f1))
theorem k51_open {w : World} {x : S51} {cs : List Value} (h : k51.K w x cs) : ∃ A1 c1, cs = [.int .i64 x.f0, .slice A1 x.f1.length c1] ∧ x.f1.length ≤ c1 ∧ (Kd.int .u8).C w A1 x.f1.length x.f1 := by
  obtain ⟨_, _, rfl, rfl, ⟨A1, c1, rfl, l1, g1⟩⟩ := h
  exact ⟨A1, c1, rfl, l1, g1⟩
theorem k51_openM {w : World} {base : Nat} {ok : Nat → Prop} {x : S51} {cs : List Value} (h : k51.M w base ok x cs) : ∃ v1, cs = [.int .i64 x.f0, v1] ∧ (Kd.int .u8).R 5 w base ok v1 x.f1 := by
  obtain ⟨_, _, rfl, rfl, ⟨v1, rfl, g1⟩⟩ := h
  exact ⟨v1, rfl, g1⟩
theorem k51_mk (w : World) (x : S51) {A1 : Option Addr} {c1 : Nat} (l1 : x.f1.length ≤ c1) (g1 : (Kd.int .u8).C w A1 x.f1.length x.f1) : k51.K w x [.int .i64 x.f0, .slice A1 x.f1.length c1] := ⟨[.int .i64 x.f0], [.slice A1 x.f1.length c1], rfl, rfl, ⟨A1, c1, rfl, l1, g1⟩⟩
theorem k51_mkM (w : World) (base : Nat) (ok : Nat → Prop) (x : S51) {v1 : Value} (g1 : (Kd.int .u8).R 5 w base ok v1 x.f1) : k51.M w base ok x [.int .i64 x.f0, v1] := ⟨[.int .i64 x.f0], [v1], rfl, rfl, ⟨v1, rfl, g1⟩⟩
theorem k51_openF {W : World} {ok : Nat → Prop} {x : S51} {cs : List Value} (h : Kd.FK k51 W ok x cs) : ∃ A1 c1, cs = [.int .i64 x.f0, .slice A1 x.f1.length c1] ∧ x.f1.length ≤ c1 ∧ Kd.F (Kd.int .u8) W ok A1 x.f1.length x.f1 := by
  obtain ⟨A1, c1, rfl, l1, _⟩ := k51_open (Kd.FK_now h)
  exact ⟨A1, c1, rfl, l1, (fun W' hW => by obtain ⟨A1_, c1_, he, l1_, g1_⟩ := k51_open (h W' hW); injection (Option.some.inj (show some (Value.slice A1 x.f1.length c1) = some (Value.slice A1_ x.f1.length c1_) from congrArg (fun l => l[1]?) he)) with ha_ _ _; rw [ha_]; exact g1_)⟩
theorem k51_mkF (W : World) (ok : Nat → Prop) (x : S51) {A1 : Option Addr} {c1 : Nat} (l1 : x.f1.length ≤ c1) (g1 : Kd.F (Kd.int .u8) W ok A1 x.f1.length x.f1) : Kd.FK k51 W ok x [.int .i64 x.f0, .slice A1 x.f1.length c1] := fun W2 hW => k51_mk W2 x l1 (g1 W2 hW)
def rd_T51 (xs : List S51) (i : Int) : S51 := xs.getD i.toNat z51
theorem at_T51 {w : World} {A : Option Addr} {n : Nat} {xs : List S51} (h : Kd.C k51 w A n xs) (i : Int) (h0 : 0 ≤ i) (h1 : i < n) : ∃ ad A1 c1, A = some ad ∧ w.cell? (ad.add (i.toNat * 2)) = some (.int .i64 (rd_T51 xs i).f0) ∧ w.cell? ⟨(ad.add (i.toNat * 2)).block, (ad.add (i.toNat * 2)).off + 1, none⟩ = some (.slice A1 (rd_T51 xs i).f1.length c1) ∧ (rd_T51 xs i).f1.length ≤ c1 ∧ (Kd.int .u8).C w A1 (rd_T51 xs i).f1.length (rd_T51 xs i).f1 := by
  obtain ⟨ad, c, e, _, hK, hc0⟩ := Kd.C_get h z51 i h0 h1
  have hc : ∀ j u, c[j]? = some u → w.cell? (ad.add (i.toNat * 2 + j)) = some u := hc0
  obtain ⟨A1, c1, rfl, l1, g1⟩ := k51_open hK
  exact ⟨ad, A1, c1, e, hc 0 _ rfl, by rw [← add_field _ _ 1 (by omega)]; exact hc 1 _ rfl, l1, g1⟩

/-! #### struct type 53 -/
structure S53 where
  f0 : ByteArray
  f1 : ByteArray
def z53 : S53 := ⟨(⟨#[]⟩ : ByteArray), (⟨#[]⟩ : ByteArray)⟩
def k53 : Kd S53 := Kd.iso (Kd.pair Kd.string Kd.string) (fun x : S53 => (x.f0, x.f1))
theorem k53_open {w : World} {x : S53} {cs : List Value} (h : k53.K w x cs) : cs = [.string x.f0, .string x.f1] := by
  obtain ⟨_, _, rfl, rfl, rfl⟩ := h
  exact rfl
theorem k53_openM {w : World} {base : Nat} {ok : Nat → Prop} {x : S53} {cs : List Value} (h : k53.M w base ok x cs) : cs = [.string x.f0, .string x.f1] := by
  obtain ⟨_, _, rfl, rfl, rfl⟩ := h
  exact rfl
theorem k53_mk (w : World) (x : S53)  : k53.K w x [.string x.f0, .string x.f1] := ⟨[.string x.f0], [.string x.f1], rfl, rfl, rfl⟩
theorem k53_mkM (w : World) (base : Nat) (ok : Nat → Prop) (x : S53)  : k53.M w base ok x [.string x.f0, .string x.f1] := ⟨[.string x.f0], [.string x.f1], rfl, rfl, rfl⟩
theorem k53_mkF (W : World) (ok : Nat → Prop) (x : S53) : Kd.FK k53 W ok x [.string x.f0, .string x.f1] := fun W2 _ => k53_mk W2 x
def rd_T53 (xs : List S53) (i : Int) : S53 := xs.getD i.toNat z53
theorem at_T53 {w : World} {A : Option Addr} {n : Nat} {xs : List S53} (h : Kd.C k53 w A n xs) (i : Int) (h0 : 0 ≤ i) (h1 : i < n) : ∃ ad , A = some ad ∧ w.cell? (ad.add (i.toNat * 2)) = some (.string (rd_T53 xs i).f0) ∧ w.cell? ⟨(ad.add (i.toNat * 2)).block, (ad.add (i.toNat * 2)).off + 1, none⟩ = some (.string (rd_T53 xs i).f1) := by
  obtain ⟨ad, c, e, _, hK, hc0⟩ := Kd.C_get h z53 i h0 h1
  have hc : ∀ j u, c[j]? = some u → w.cell? (ad.add (i.toNat * 2 + j)) = some u := hc0
  obtain rfl := k53_open hK
  exact ⟨ad, e, hc 0 _ rfl, by rw [← add_field _ _ 1 (by omega)]; exact hc 1 _ rfl⟩

/-! #### struct type 55 -/
structure S55 where
  f0 : Int
  f1 : (List Int)
def z55 : S55 := ⟨(0 : Int), ([] : List Int)⟩
def k55 : Kd S55 := Kd.iso (Kd.pair (Kd.int .i64) (Kd.slice 5 (Kd.int .u8))) (fun x : S55 => (x.f0, x.f1))
theorem k55_open {w : World} {x : S55} {cs : List Value} (h : k55.K w x cs) : ∃ A1 c1, cs = [.int .i64 x.f0, .slice A1 x.f1.length c1] ∧ x.f1.length ≤ c1 ∧ (Kd.int .u8).C w A1 x.f1.length x.f1 := by
  obtain ⟨_, _, rfl, rfl, ⟨A1, c1, rfl, l1, g1⟩⟩ := h
  exact ⟨A1, c1, rfl, l1, g1⟩
theorem k55_openM {w : World} {base : Nat} {ok : Nat → Prop} {x : S55} {cs : List Value} (h : k55.M w base ok x cs) : ∃ v1, cs = [.int .i64 x.f0, v1] ∧ (Kd.int .u8).R 5 w base ok v1 x.f1 := by
  obtain ⟨_, _, rfl, rfl, ⟨v1, rfl, g1⟩⟩ := h
  exact ⟨v1, rfl, g1⟩
theorem k55_mk (w : World) (x : S55) {A1 : Option Addr} {c1 : Nat} (l1 : x.f1.length ≤ c1) (g1 : (Kd.int .u8).C w A1 x.f1.length x.f1) : k55.K w x [.int .i64 x.f0, .slice A1 x.f1.length c1] := ⟨[.int .i64 x.f0], [.slice A1 x.f1.length c1], rfl, rfl, ⟨A1, c1, rfl, l1, g1⟩⟩
theorem k55_mkM (w : World) (base : Nat) (ok : Nat → Prop) (x : S55) {v1 : Value} (g1 : (Kd.int .u8).R 5 w base ok v1 x.f1) : k55.M w base ok x [.int .i64 x.f0, v1] := ⟨[.int .i64 x.f0], [v1], rfl, rfl, ⟨v1, rfl, g1⟩⟩
theorem k55_openF {W : World} {ok : Nat → Prop} {x : S55} {cs : List Value} (h : Kd.FK k55 W ok x cs) : ∃ A1 c1, cs = [.int .i64 x.f0, .slice A1 x.f1.length c1] ∧ x.f1.length ≤ c1 ∧ Kd.F (Kd.int .u8) W ok A1 x.f1.length x.f1 := by
  obtain ⟨A1, c1, rfl, l1, _⟩ := k55_open (Kd.FK_now h)
  exact ⟨A1, c1, rfl, l1, (fun W' hW => by obtain ⟨A1_, c1_, he, l1_, g1_⟩ := k55_open (h W' hW); injection (Option.some.inj (show some (Value.slice A1 x.f1.length c1) = some (Value.slice A1_ x.f1.length c1_) from congrArg (fun l => l[1]?) he)) with ha_ _ _; rw [ha_]; exact g1_)⟩
theorem k55_mkF (W : World) (ok : Nat → Prop) (x : S55) {A1 : Option Addr} {c1 : Nat} (l1 : x.f1.length ≤ c1) (g1 : Kd.F (Kd.int .u8) W ok A1 x.f1.length x.f1) : Kd.FK k55 W ok x [.int .i64 x.f0, .slice A1 x.f1.length c1] := fun W2 hW => k55_mk W2 x l1 (g1 W2 hW)
def rd_T55 (xs : List S55) (i : Int) : S55 := xs.getD i.toNat z55
theorem at_T55 {w : World} {A : Option Addr} {n : Nat} {xs : List S55} (h : Kd.C k55 w A n xs) (i : Int) (h0 : 0 ≤ i) (h1 : i < n) : ∃ ad A1 c1, A = some ad ∧ w.cell? (ad.add (i.toNat * 2)) = some (.int .i64 (rd_T55 xs i).f0) ∧ w.cell? ⟨(ad.add (i.toNat * 2)).block, (ad.add (i.toNat * 2)).off + 1, none⟩ = some (.slice A1 (rd_T55 xs i).f1.length c1) ∧ (rd_T55 xs i).f1.length ≤ c1 ∧ (Kd.int .u8).C w A1 (rd_T55 xs i).f1.length (rd_T55 xs i).f1 := by
  obtain ⟨ad, c, e, _, hK, hc0⟩ := Kd.C_get h z55 i h0 h1
  have hc : ∀ j u, c[j]? = some u → w.cell? (ad.add (i.toNat * 2 + j)) = some u := hc0
  obtain ⟨A1, c1, rfl, l1, g1⟩ := k55_open hK
  exact ⟨ad, A1, c1, e, hc 0 _ rfl, by rw [← add_field _ _ 1 (by omega)]; exact hc 1 _ rfl, l1, g1⟩

/-! #### struct type 24 -/
structure S24 where
  f0 : Int
  f1 : ByteArray
def z24 : S24 := ⟨(0 : Int), (⟨#[]⟩ : ByteArray)⟩
def k24 : Kd S24 := Kd.iso (Kd.pair (Kd.int .i64) Kd.string) (fun x : S24 => (x.f0, x.f1))
theorem k24_open {w : World} {x : S24} {cs : List Value} (h : k24.K w x cs) : cs = [.int .i64 x.f0, .string x.f1] := by
  obtain ⟨_, _, rfl, rfl, rfl⟩ := h
  exact rfl
theorem k24_openM {w : World} {base : Nat} {ok : Nat → Prop} {x : S24} {cs : List Value} (h : k24.M w base ok x cs) : cs = [.int .i64 x.f0, .string x.f1] := by
  obtain ⟨_, _, rfl, rfl, rfl⟩ := h
  exact rfl
theorem k24_mk (w : World) (x : S24)  : k24.K w x [.int .i64 x.f0, .string x.f1] := ⟨[.int .i64 x.f0], [.string x.f1], rfl, rfl, rfl⟩
theorem k24_mkM (w : World) (base : Nat) (ok : Nat → Prop) (x : S24)  : k24.M w base ok x [.int .i64 x.f0, .string x.f1] := ⟨[.int .i64 x.f0], [.string x.f1], rfl, rfl, rfl⟩
theorem k24_mkF (W : World) (ok : Nat → Prop) (x : S24) : Kd.FK k24 W ok x [.int .i64 x.f0, .string x.f1] := fun W2 _ => k24_mk W2 x
def rd_T24 (xs : List S24) (i : Int) : S24 := xs.getD i.toNat z24
theorem at_T24 {w : World} {A : Option Addr} {n : Nat} {xs : List S24} (h : Kd.C k24 w A n xs) (i : Int) (h0 : 0 ≤ i) (h1 : i < n) : ∃ ad , A = some ad ∧ w.cell? (ad.add (i.toNat * 2)) = some (.int .i64 (rd_T24 xs i).f0) ∧ w.cell? ⟨(ad.add (i.toNat * 2)).block, (ad.add (i.toNat * 2)).off + 1, none⟩ = some (.string (rd_T24 xs i).f1) := by
  obtain ⟨ad, c, e, _, hK, hc0⟩ := Kd.C_get h z24 i h0 h1
  have hc : ∀ j u, c[j]? = some u → w.cell? (ad.add (i.toNat * 2 + j)) = some u := hc0
  obtain rfl := k24_open hK
  exact ⟨ad, e, hc 0 _ rfl, by rw [← add_field _ _ 1 (by omega)]; exact hc 1 _ rfl⟩

def rd_L11 (xs : List (List S51)) (i : Int) : (List S51) := xs.getD i.toNat ([] : List S51)
theorem at_L11 {w : World} {A : Option Addr} {n : Nat} {xs : List (List S51)} (h : Kd.C (Kd.slice 51 k51) w A n xs) (i : Int) (h0 : 0 ≤ i) (h1 : i < n) : ∃ ad A0 c0, A = some ad ∧ w.cell? (ad.add i.toNat) = some (.slice A0 (rd_L11 xs i).length c0) ∧ (rd_L11 xs i).length ≤ c0 ∧ k51.C w A0 (rd_L11 xs i).length (rd_L11 xs i) := by
  obtain ⟨ad, c, e, _, hK, hc0⟩ := Kd.C_get h ([] : List S51) i h0 h1
  have hc : ∀ j u, c[j]? = some u → w.cell? (ad.add (i.toNat * 1 + j)) = some u := hc0
  obtain ⟨A0, c0, rfl, l0, g0⟩ := hK
  exact ⟨ad, A0, c0, e, by have hq := hc 0 _ rfl; rwa [Nat.mul_one, Nat.add_zero] at hq, l0, g0⟩

def rd_L12 (xs : List (List S53)) (i : Int) : (List S53) := xs.getD i.toNat ([] : List S53)
theorem at_L12 {w : World} {A : Option Addr} {n : Nat} {xs : List (List S53)} (h : Kd.C (Kd.slice 53 k53) w A n xs) (i : Int) (h0 : 0 ≤ i) (h1 : i < n) : ∃ ad A0 c0, A = some ad ∧ w.cell? (ad.add i.toNat) = some (.slice A0 (rd_L12 xs i).length c0) ∧ (rd_L12 xs i).length ≤ c0 ∧ k53.C w A0 (rd_L12 xs i).length (rd_L12 xs i) := by
  obtain ⟨ad, c, e, _, hK, hc0⟩ := Kd.C_get h ([] : List S53) i h0 h1
  have hc : ∀ j u, c[j]? = some u → w.cell? (ad.add (i.toNat * 1 + j)) = some u := hc0
  obtain ⟨A0, c0, rfl, l0, g0⟩ := hK
  exact ⟨ad, A0, c0, e, by have hq := hc 0 _ rfl; rwa [Nat.mul_one, Nat.add_zero] at hq, l0, g0⟩

def rd_L13 (xs : List (List S55)) (i : Int) : (List S55) := xs.getD i.toNat ([] : List S55)
theorem at_L13 {w : World} {A : Option Addr} {n : Nat} {xs : List (List S55)} (h : Kd.C (Kd.slice 55 k55) w A n xs) (i : Int) (h0 : 0 ≤ i) (h1 : i < n) : ∃ ad A0 c0, A = some ad ∧ w.cell? (ad.add i.toNat) = some (.slice A0 (rd_L13 xs i).length c0) ∧ (rd_L13 xs i).length ≤ c0 ∧ k55.C w A0 (rd_L13 xs i).length (rd_L13 xs i) := by
  obtain ⟨ad, c, e, _, hK, hc0⟩ := Kd.C_get h ([] : List S55) i h0 h1
  have hc : ∀ j u, c[j]? = some u → w.cell? (ad.add (i.toNat * 1 + j)) = some u := hc0
  obtain ⟨A0, c0, rfl, l0, g0⟩ := hK
  exact ⟨ad, A0, c0, e, by have hq := hc 0 _ rfl; rwa [Nat.mul_one, Nat.add_zero] at hq, l0, g0⟩

/-! #### struct type 29 -/
structure S29 where
  f0 : Int
  f1 : Int
  f2 : ByteArray
  f3 : ByteArray
  f4 : ByteArray
  f5 : ByteArray
  f6 : Int
  f7 : ByteArray
  f8 : ByteArray
  f9 : ByteArray
  f10 : ByteArray
  f11 : Int
  f12 : ByteArray
  f13 : ByteArray
  f14 : S24
  f15 : (List S51)
  f16 : ByteArray
  f17 : ByteArray
  f18 : (List S53)
  f19 : (List S55)
def z29 : S29 := ⟨(0 : Int), (0 : Int), (⟨#[]⟩ : ByteArray), (⟨#[]⟩ : ByteArray), (⟨#[]⟩ : ByteArray), (⟨#[]⟩ : ByteArray), (0 : Int), (⟨#[]⟩ : ByteArray), (⟨#[]⟩ : ByteArray), (⟨#[]⟩ : ByteArray), (⟨#[]⟩ : ByteArray), (0 : Int), (⟨#[]⟩ : ByteArray), (⟨#[]⟩ : ByteArray), z24, ([] : List S51), (⟨#[]⟩ : ByteArray), (⟨#[]⟩ : ByteArray), ([] : List S53), ([] : List S55)⟩
def k29 : Kd S29 := Kd.iso (Kd.pair (Kd.int .i64) (Kd.pair (Kd.int .i64) (Kd.pair Kd.string (Kd.pair Kd.string (Kd.pair Kd.string (Kd.pair Kd.string (Kd.pair (Kd.int .u64) (Kd.pair Kd.string (Kd.pair Kd.string (Kd.pair Kd.string (Kd.pair Kd.string (Kd.pair (Kd.int .i64) (Kd.pair Kd.string (Kd.pair Kd.string (Kd.pair k24 (Kd.pair (Kd.slice 51 k51) (Kd.pair Kd.string (Kd.pair Kd.string (Kd.pair (Kd.slice 53 k53) (Kd.slice 55 k55)))))))))))))))))))) (fun x : S29 => (x.f0, x.f1, x.f2, x.f3, x.f4, x.f5, x.f6, x.f7, x.f8, x.f9, x.f10, x.f11, x.f12, x.f13, x.f14, x.f15, x.f16, x.f17, x.f18, x.f19))
theorem k29_open {w : World} {x : S29} {cs : List Value} (h : k29.K w x cs) : ∃ A16 c16 A19 c19 A20 c20, cs = [.int .i64 x.f0, .int .i64 x.f1, .string x.f2, .string x.f3, .string x.f4, .string x.f5, .int .u64 x.f6, .string x.f7, .string x.f8, .string x.f9, .string x.f10, .int .i64 x.f11, .string x.f12, .string x.f13, .int .i64 x.f14.f0, .string x.f14.f1, .slice A16 x.f15.length c16, .string x.f16, .string x.f17, .slice A19 x.f18.length c19, .slice A20 x.f19.length c20] ∧ x.f15.length ≤ c16 ∧ k51.C w A16 x.f15.length x.f15 ∧ x.f18.length ≤ c19 ∧ k53.C w A19 x.f18.length x.f18 ∧ x.f19.length ≤ c20 ∧ k55.C w A20 x.f19.length x.f19 := by
  obtain ⟨_, _, rfl, rfl, ⟨_, _, rfl, rfl, ⟨_, _, rfl, rfl, ⟨_, _, rfl, rfl, ⟨_, _, rfl, rfl, ⟨_, _, rfl, rfl, ⟨_, _, rfl, rfl, ⟨_, _, rfl, rfl, ⟨_, _, rfl, rfl, ⟨_, _, rfl, rfl, ⟨_, _, rfl, rfl, ⟨_, _, rfl, rfl, ⟨_, _, rfl, rfl, ⟨_, _, rfl, rfl, ⟨_, _, rfl, s14, ⟨_, _, rfl, ⟨A16, c16, rfl, l16, g16⟩, ⟨_, _, rfl, rfl, ⟨_, _, rfl, rfl, ⟨_, _, rfl, ⟨A19, c19, rfl, l19, g19⟩, ⟨A20, c20, rfl, l20, g20⟩⟩⟩⟩⟩⟩⟩⟩⟩⟩⟩⟩⟩⟩⟩⟩⟩⟩⟩⟩ := h
  obtain rfl := k24_open s14
  exact ⟨A16, c16, A19, c19, A20, c20, rfl, l16, g16, l19, g19, l20, g20⟩
theorem k29_openM {w : World} {base : Nat} {ok : Nat → Prop} {x : S29} {cs : List Value} (h : k29.M w base ok x cs) : ∃ v16 v19 v20, cs = [.int .i64 x.f0, .int .i64 x.f1, .string x.f2, .string x.f3, .string x.f4, .string x.f5, .int .u64 x.f6, .string x.f7, .string x.f8, .string x.f9, .string x.f10, .int .i64 x.f11, .string x.f12, .string x.f13, .int .i64 x.f14.f0, .string x.f14.f1, v16, .string x.f16, .string x.f17, v19, v20] ∧ k51.R 51 w base ok v16 x.f15 ∧ k53.R 53 w base ok v19 x.f18 ∧ k55.R 55 w base ok v20 x.f19 := by
  obtain ⟨_, _, rfl, rfl, ⟨_, _, rfl, rfl, ⟨_, _, rfl, rfl, ⟨_, _, rfl, rfl, ⟨_, _, rfl, rfl, ⟨_, _, rfl, rfl, ⟨_, _, rfl, rfl, ⟨_, _, rfl, rfl, ⟨_, _, rfl, rfl, ⟨_, _, rfl, rfl, ⟨_, _, rfl, rfl, ⟨_, _, rfl, rfl, ⟨_, _, rfl, rfl, ⟨_, _, rfl, rfl, ⟨_, _, rfl, s14, ⟨_, _, rfl, ⟨v16, rfl, g16⟩, ⟨_, _, rfl, rfl, ⟨_, _, rfl, rfl, ⟨_, _, rfl, ⟨v19, rfl, g19⟩, ⟨v20, rfl, g20⟩⟩⟩⟩⟩⟩⟩⟩⟩⟩⟩⟩⟩⟩⟩⟩⟩⟩⟩⟩ := h
  obtain rfl := k24_openM s14
  exact ⟨v16, v19, v20, rfl, g16, g19, g20⟩
theorem k29_mk (w : World) (x : S29) {A16 : Option Addr} {c16 : Nat} (l16 : x.f15.length ≤ c16) (g16 : k51.C w A16 x.f15.length x.f15) {A19 : Option Addr} {c19 : Nat} (l19 : x.f18.length ≤ c19) (g19 : k53.C w A19 x.f18.length x.f18) {A20 : Option Addr} {c20 : Nat} (l20 : x.f19.length ≤ c20) (g20 : k55.C w A20 x.f19.length x.f19) : k29.K w x [.int .i64 x.f0, .int .i64 x.f1, .string x.f2, .string x.f3, .string x.f4, .string x.f5, .int .u64 x.f6, .string x.f7, .string x.f8, .string x.f9, .string x.f10, .int .i64 x.f11, .string x.f12, .string x.f13, .int .i64 x.f14.f0, .string x.f14.f1, .slice A16 x.f15.length c16, .string x.f16, .string x.f17, .slice A19 x.f18.length c19, .slice A20 x.f19.length c20] := ⟨[.int .i64 x.f0], [.int .i64 x.f1, .string x.f2, .string x.f3, .string x.f4, .string x.f5, .int .u64 x.f6, .string x.f7, .string x.f8, .string x.f9, .string x.f10, .int .i64 x.f11, .string x.f12, .string x.f13, .int .i64 x.f14.f0, .string x.f14.f1, .slice A16 x.f15.length c16, .string x.f16, .string x.f17, .slice A19 x.f18.length c19, .slice A20 x.f19.length c20], rfl, rfl, ⟨[.int .i64 x.f1], [.string x.f2, .string x.f3, .string x.f4, .string x.f5, .int .u64 x.f6, .string x.f7, .string x.f8, .string x.f9, .string x.f10, .int .i64 x.f11, .string x.f12, .string x.f13, .int .i64 x.f14.f0, .string x.f14.f1, .slice A16 x.f15.length c16, .string x.f16, .string x.f17, .slice A19 x.f18.length c19, .slice A20 x.f19.length c20], rfl, rfl, ⟨[.string x.f2], [.string x.f3, .string x.f4, .string x.f5, .int .u64 x.f6, .string x.f7, .string x.f8, .string x.f9, .string x.f10, .int .i64 x.f11, .string x.f12, .string x.f13, .int .i64 x.f14.f0, .string x.f14.f1, .slice A16 x.f15.length c16, .string x.f16, .string x.f17, .slice A19 x.f18.length c19, .slice A20 x.f19.length c20], rfl, rfl, ⟨[.string x.f3], [.string x.f4, .string x.f5, .int .u64 x.f6, .string x.f7, .string x.f8, .string x.f9, .string x.f10, .int .i64 x.f11, .string x.f12, .string x.f13, .int .i64 x.f14.f0, .string x.f14.f1, .slice A16 x.f15.length c16, .string x.f16, .string x.f17, .slice A19 x.f18.length c19, .slice A20 x.f19.length c20], rfl, rfl, ⟨[.string x.f4], [.string x.f5, .int .u64 x.f6, .string x.f7, .string x.f8, .string x.f9, .string x.f10, .int .i64 x.f11, .string x.f12, .string x.f13, .int .i64 x.f14.f0, .string x.f14.f1, .slice A16 x.f15.length c16, .string x.f16, .string x.f17, .slice A19 x.f18.length c19, .slice A20 x.f19.length c20], rfl, rfl, ⟨[.string x.f5], [.int .u64 x.f6, .string x.f7, .string x.f8, .string x.f9, .string x.f10, .int .i64 x.f11, .string x.f12, .string x.f13, .int .i64 x.f14.f0, .string x.f14.f1, .slice A16 x.f15.length c16, .string x.f16, .string x.f17, .slice A19 x.f18.length c19, .slice A20 x.f19.length c20], rfl, rfl, ⟨[.int .u64 x.f6], [.string x.f7, .string x.f8, .string x.f9, .string x.f10, .int .i64 x.f11, .string x.f12, .string x.f13, .int .i64 x.f14.f0, .string x.f14.f1, .slice A16 x.f15.length c16, .string x.f16, .string x.f17, .slice A19 x.f18.length c19, .slice A20 x.f19.length c20], rfl, rfl, ⟨[.string x.f7], [.string x.f8, .string x.f9, .string x.f10, .int .i64 x.f11, .string x.f12, .string x.f13, .int .i64 x.f14.f0, .string x.f14.f1, .slice A16 x.f15.length c16, .string x.f16, .string x.f17, .slice A19 x.f18.length c19, .slice A20 x.f19.length c20], rfl, rfl, ⟨[.string x.f8], [.string x.f9, .string x.f10, .int .i64 x.f11, .string x.f12, .string x.f13, .int .i64 x.f14.f0, .string x.f14.f1, .slice A16 x.f15.length c16, .string x.f16, .string x.f17, .slice A19 x.f18.length c19, .slice A20 x.f19.length c20], rfl, rfl, ⟨[.string x.f9], [.string x.f10, .int .i64 x.f11, .string x.f12, .string x.f13, .int .i64 x.f14.f0, .string x.f14.f1, .slice A16 x.f15.length c16, .string x.f16, .string x.f17, .slice A19 x.f18.length c19, .slice A20 x.f19.length c20], rfl, rfl, ⟨[.string x.f10], [.int .i64 x.f11, .string x.f12, .string x.f13, .int .i64 x.f14.f0, .string x.f14.f1, .slice A16 x.f15.length c16, .string x.f16, .string x.f17, .slice A19 x.f18.length c19, .slice A20 x.f19.length c20], rfl, rfl, ⟨[.int .i64 x.f11], [.string x.f12, .string x.f13, .int .i64 x.f14.f0, .string x.f14.f1, .slice A16 x.f15.length c16, .string x.f16, .string x.f17, .slice A19 x.f18.length c19, .slice A20 x.f19.length c20], rfl, rfl, ⟨[.string x.f12], [.string x.f13, .int .i64 x.f14.f0, .string x.f14.f1, .slice A16 x.f15.length c16, .string x.f16, .string x.f17, .slice A19 x.f18.length c19, .slice A20 x.f19.length c20], rfl, rfl, ⟨[.string x.f13], [.int .i64 x.f14.f0, .string x.f14.f1, .slice A16 x.f15.length c16, .string x.f16, .string x.f17, .slice A19 x.f18.length c19, .slice A20 x.f19.length c20], rfl, rfl, ⟨[.int .i64 x.f14.f0, .string x.f14.f1], [.slice A16 x.f15.length c16, .string x.f16, .string x.f17, .slice A19 x.f18.length c19, .slice A20 x.f19.length c20], rfl, (k24_mk w x.f14 ), ⟨[.slice A16 x.f15.length c16], [.string x.f16, .string x.f17, .slice A19 x.f18.length c19, .slice A20 x.f19.length c20], rfl, ⟨A16, c16, rfl, l16, g16⟩, ⟨[.string x.f16], [.string x.f17, .slice A19 x.f18.length c19, .slice A20 x.f19.length c20], rfl, rfl, ⟨[.string x.f17], [.slice A19 x.f18.length c19, .slice A20 x.f19.length c20], rfl, rfl, ⟨[.slice A19 x.f18.length c19], [.slice A20 x.f19.length c20], rfl, ⟨A19, c19, rfl, l19, g19⟩, ⟨A20, c20, rfl, l20, g20⟩⟩⟩⟩⟩⟩⟩⟩⟩⟩⟩⟩⟩⟩⟩⟩⟩⟩⟩⟩
theorem k29_mkM (w : World) (base : Nat) (ok : Nat → Prop) (x : S29) {v16 : Value} (g16 : k51.R 51 w base ok v16 x.f15) {v19 : Value} (g19 : k53.R 53 w base ok v19 x.f18) {v20 : Value} (g20 : k55.R 55 w base ok v20 x.f19) : k29.M w base ok x [.int .i64 x.f0, .int .i64 x.f1, .string x.f2, .string x.f3, .string x.f4, .string x.f5, .int .u64 x.f6, .string x.f7, .string x.f8, .string x.f9, .string x.f10, .int .i64 x.f11, .string x.f12, .string x.f13, .int .i64 x.f14.f0, .string x.f14.f1, v16, .string x.f16, .string x.f17, v19, v20] := ⟨[.int .i64 x.f0], [.int .i64 x.f1, .string x.f2, .string x.f3, .string x.f4, .string x.f5, .int .u64 x.f6, .string x.f7, .string x.f8, .string x.f9, .string x.f10, .int .i64 x.f11, .string x.f12, .string x.f13, .int .i64 x.f14.f0, .string x.f14.f1, v16, .string x.f16, .string x.f17, v19, v20], rfl, rfl, ⟨[.int .i64 x.f1], [.string x.f2, .string x.f3, .string x.f4, .string x.f5, .int .u64 x.f6, .string x.f7, .string x.f8, .string x.f9, .string x.f10, .int .i64 x.f11, .string x.f12, .string x.f13, .int .i64 x.f14.f0, .string x.f14.f1, v16, .string x.f16, .string x.f17, v19, v20], rfl, rfl, ⟨[.string x.f2], [.string x.f3, .string x.f4, .string x.f5, .int .u64 x.f6, .string x.f7, .string x.f8, .string x.f9, .string x.f10, .int .i64 x.f11, .string x.f12, .string x.f13, .int .i64 x.f14.f0, .string x.f14.f1, v16, .string x.f16, .string x.f17, v19, v20], rfl, rfl, ⟨[.string x.f3], [.string x.f4, .string x.f5, .int .u64 x.f6, .string x.f7, .string x.f8, .string x.f9, .string x.f10, .int .i64 x.f11, .string x.f12, .string x.f13, .int .i64 x.f14.f0, .string x.f14.f1, v16, .string x.f16, .string x.f17, v19, v20], rfl, rfl, ⟨[.string x.f4], [.string x.f5, .int .u64 x.f6, .string x.f7, .string x.f8, .string x.f9, .string x.f10, .int .i64 x.f11, .string x.f12, .string x.f13, .int .i64 x.f14.f0, .string x.f14.f1, v16, .string x.f16, .string x.f17, v19, v20], rfl, rfl, ⟨[.string x.f5], [.int .u64 x.f6, .string x.f7, .string x.f8, .string x.f9, .string x.f10, .int .i64 x.f11, .string x.f12, .string x.f13, .int .i64 x.f14.f0, .string x.f14.f1, v16, .string x.f16, .string x.f17, v19, v20], rfl, rfl, ⟨[.int .u64 x.f6], [.string x.f7, .string x.f8, .string x.f9, .string x.f10, .int .i64 x.f11, .string x.f12, .string x.f13, .int .i64 x.f14.f0, .string x.f14.f1, v16, .string x.f16, .string x.f17, v19, v20], rfl, rfl, ⟨[.string x.f7], [.string x.f8, .string x.f9, .string x.f10, .int .i64 x.f11, .string x.f12, .string x.f13, .int .i64 x.f14.f0, .string x.f14.f1, v16, .string x.f16, .string x.f17, v19, v20], rfl, rfl, ⟨[.string x.f8], [.string x.f9, .string x.f10, .int .i64 x.f11, .string x.f12, .string x.f13, .int .i64 x.f14.f0, .string x.f14.f1, v16, .string x.f16, .string x.f17, v19, v20], rfl, rfl, ⟨[.string x.f9], [.string x.f10, .int .i64 x.f11, .string x.f12, .string x.f13, .int .i64 x.f14.f0, .string x.f14.f1, v16, .string x.f16, .string x.f17, v19, v20], rfl, rfl, ⟨[.string x.f10], [.int .i64 x.f11, .string x.f12, .string x.f13, .int .i64 x.f14.f0, .string x.f14.f1, v16, .string x.f16, .string x.f17, v19, v20], rfl, rfl, ⟨[.int .i64 x.f11], [.string x.f12, .string x.f13, .int .i64 x.f14.f0, .string x.f14.f1, v16, .string x.f16, .string x.f17, v19, v20], rfl, rfl, ⟨[.string x.f12], [.string x.f13, .int .i64 x.f14.f0, .string x.f14.f1, v16, .string x.f16, .string x.f17, v19, v20], rfl, rfl, ⟨[.string x.f13], [.int .i64 x.f14.f0, .string x.f14.f1, v16, .string x.f16, .string x.f17, v19, v20], rfl, rfl, ⟨[.int .i64 x.f14.f0, .string x.f14.f1], [v16, .string x.f16, .string x.f17, v19, v20], rfl, (k24_mkM w base ok x.f14 ), ⟨[v16], [.string x.f16, .string x.f17, v19, v20], rfl, ⟨v16, rfl, g16⟩, ⟨[.string x.f16], [.string x.f17, v19, v20], rfl, rfl, ⟨[.string x.f17], [v19, v20], rfl, rfl, ⟨[v19], [v20], rfl, ⟨v19, rfl, g19⟩, ⟨v20, rfl, g20⟩⟩⟩⟩⟩⟩⟩⟩⟩⟩⟩⟩⟩⟩⟩⟩⟩⟩⟩⟩
theorem k29_openF {W : World} {ok : Nat → Prop} {x : S29} {cs : List Value} (h : Kd.FK k29 W ok x cs) : ∃ A16 c16 A19 c19 A20 c20, cs = [.int .i64 x.f0, .int .i64 x.f1, .string x.f2, .string x.f3, .string x.f4, .string x.f5, .int .u64 x.f6, .string x.f7, .string x.f8, .string x.f9, .string x.f10, .int .i64 x.f11, .string x.f12, .string x.f13, .int .i64 x.f14.f0, .string x.f14.f1, .slice A16 x.f15.length c16, .string x.f16, .string x.f17, .slice A19 x.f18.length c19, .slice A20 x.f19.length c20] ∧ x.f15.length ≤ c16 ∧ Kd.F k51 W ok A16 x.f15.length x.f15 ∧ x.f18.length ≤ c19 ∧ Kd.F k53 W ok A19 x.f18.length x.f18 ∧ x.f19.length ≤ c20 ∧ Kd.F k55 W ok A20 x.f19.length x.f19 := by
  obtain ⟨A16, c16, A19, c19, A20, c20, rfl, l16, _, l19, _, l20, _⟩ := k29_open (Kd.FK_now h)
  exact ⟨A16, c16, A19, c19, A20, c20, rfl, l16, (fun W' hW => by obtain ⟨A16_, c16_, A19_, c19_, A20_, c20_, he, l16_, g16_, l19_, g19_, l20_, g20_⟩ := k29_open (h W' hW); injection (Option.some.inj (show some (Value.slice A16 x.f15.length c16) = some (Value.slice A16_ x.f15.length c16_) from congrArg (fun l => l[16]?) he)) with ha_ _ _; rw [ha_]; exact g16_), l19, (fun W' hW => by obtain ⟨A16_, c16_, A19_, c19_, A20_, c20_, he, l16_, g16_, l19_, g19_, l20_, g20_⟩ := k29_open (h W' hW); injection (Option.some.inj (show some (Value.slice A19 x.f18.length c19) = some (Value.slice A19_ x.f18.length c19_) from congrArg (fun l => l[19]?) he)) with ha_ _ _; rw [ha_]; exact g19_), l20, (fun W' hW => by obtain ⟨A16_, c16_, A19_, c19_, A20_, c20_, he, l16_, g16_, l19_, g19_, l20_, g20_⟩ := k29_open (h W' hW); injection (Option.some.inj (show some (Value.slice A20 x.f19.length c20) = some (Value.slice A20_ x.f19.length c20_) from congrArg (fun l => l[20]?) he)) with ha_ _ _; rw [ha_]; exact g20_)⟩
theorem k29_mkF (W : World) (ok : Nat → Prop) (x : S29) {A16 : Option Addr} {c16 : Nat} (l16 : x.f15.length ≤ c16) (g16 : Kd.F k51 W ok A16 x.f15.length x.f15) {A19 : Option Addr} {c19 : Nat} (l19 : x.f18.length ≤ c19) (g19 : Kd.F k53 W ok A19 x.f18.length x.f18) {A20 : Option Addr} {c20 : Nat} (l20 : x.f19.length ≤ c20) (g20 : Kd.F k55 W ok A20 x.f19.length x.f19) : Kd.FK k29 W ok x [.int .i64 x.f0, .int .i64 x.f1, .string x.f2, .string x.f3, .string x.f4, .string x.f5, .int .u64 x.f6, .string x.f7, .string x.f8, .string x.f9, .string x.f10, .int .i64 x.f11, .string x.f12, .string x.f13, .int .i64 x.f14.f0, .string x.f14.f1, .slice A16 x.f15.length c16, .string x.f16, .string x.f17, .slice A19 x.f18.length c19, .slice A20 x.f19.length c20] := fun W2 hW => k29_mk W2 x l16 (g16 W2 hW) l19 (g19 W2 hW) l20 (g20 W2 hW)
def rd_T29 (xs : List S29) (i : Int) : S29 := xs.getD i.toNat z29
theorem at_T29 {w : World} {A : Option Addr} {n : Nat} {xs : List S29} (h : Kd.C k29 w A n xs) (i : Int) (h0 : 0 ≤ i) (h1 : i < n) : ∃ ad A16 c16 A19 c19 A20 c20, A = some ad ∧ w.cell? (ad.add (i.toNat * 21)) = some (.int .i64 (rd_T29 xs i).f0) ∧ w.cell? ⟨(ad.add (i.toNat * 21)).block, (ad.add (i.toNat * 21)).off + 1, none⟩ = some (.int .i64 (rd_T29 xs i).f1) ∧ w.cell? ⟨(ad.add (i.toNat * 21)).block, (ad.add (i.toNat * 21)).off + 2, none⟩ = some (.string (rd_T29 xs i).f2) ∧ w.cell? ⟨(ad.add (i.toNat * 21)).block, (ad.add (i.toNat * 21)).off + 3, none⟩ = some (.string (rd_T29 xs i).f3) ∧ w.cell? ⟨(ad.add (i.toNat * 21)).block, (ad.add (i.toNat * 21)).off + 4, none⟩ = some (.string (rd_T29 xs i).f4) ∧ w.cell? ⟨(ad.add (i.toNat * 21)).block, (ad.add (i.toNat * 21)).off + 5, none⟩ = some (.string (rd_T29 xs i).f5) ∧ w.cell? ⟨(ad.add (i.toNat * 21)).block, (ad.add (i.toNat * 21)).off + 6, none⟩ = some (.int .u64 (rd_T29 xs i).f6) ∧ w.cell? ⟨(ad.add (i.toNat * 21)).block, (ad.add (i.toNat * 21)).off + 7, none⟩ = some (.string (rd_T29 xs i).f7) ∧ w.cell? ⟨(ad.add (i.toNat * 21)).block, (ad.add (i.toNat * 21)).off + 8, none⟩ = some (.string (rd_T29 xs i).f8) ∧ w.cell? ⟨(ad.add (i.toNat * 21)).block, (ad.add (i.toNat * 21)).off + 9, none⟩ = some (.string (rd_T29 xs i).f9) ∧ w.cell? ⟨(ad.add (i.toNat * 21)).block, (ad.add (i.toNat * 21)).off + 10, none⟩ = some (.string (rd_T29 xs i).f10) ∧ w.cell? ⟨(ad.add (i.toNat * 21)).block, (ad.add (i.toNat * 21)).off + 11, none⟩ = some (.int .i64 (rd_T29 xs i).f11) ∧ w.cell? ⟨(ad.add (i.toNat * 21)).block, (ad.add (i.toNat * 21)).off + 12, none⟩ = some (.string (rd_T29 xs i).f12) ∧ w.cell? ⟨(ad.add (i.toNat * 21)).block, (ad.add (i.toNat * 21)).off + 13, none⟩ = some (.string (rd_T29 xs i).f13) ∧ w.cell? ⟨(ad.add (i.toNat * 21)).block, (ad.add (i.toNat * 21)).off + 14, none⟩ = some (.int .i64 (rd_T29 xs i).f14.f0) ∧ w.cell? ⟨(ad.add (i.toNat * 21)).block, (ad.add (i.toNat * 21)).off + 15, none⟩ = some (.string (rd_T29 xs i).f14.f1) ∧ w.cell? ⟨(ad.add (i.toNat * 21)).block, (ad.add (i.toNat * 21)).off + 16, none⟩ = some (.slice A16 (rd_T29 xs i).f15.length c16) ∧ w.cell? ⟨(ad.add (i.toNat * 21)).block, (ad.add (i.toNat * 21)).off + 17, none⟩ = some (.string (rd_T29 xs i).f16) ∧ w.cell? ⟨(ad.add (i.toNat * 21)).block, (ad.add (i.toNat * 21)).off + 18, none⟩ = some (.string (rd_T29 xs i).f17) ∧ w.cell? ⟨(ad.add (i.toNat * 21)).block, (ad.add (i.toNat * 21)).off + 19, none⟩ = some (.slice A19 (rd_T29 xs i).f18.length c19) ∧ w.cell? ⟨(ad.add (i.toNat * 21)).block, (ad.add (i.toNat * 21)).off + 20, none⟩ = some (.slice A20 (rd_T29 xs i).f19.length c20) ∧ (rd_T29 xs i).f15.length ≤ c16 ∧ k51.C w A16 (rd_T29 xs i).f15.length (rd_T29 xs i).f15 ∧ (rd_T29 xs i).f18.length ≤ c19 ∧ k53.C w A19 (rd_T29 xs i).f18.length (rd_T29 xs i).f18 ∧ (rd_T29 xs i).f19.length ≤ c20 ∧ k55.C w A20 (rd_T29 xs i).f19.length (rd_T29 xs i).f19 := by
  obtain ⟨ad, c, e, _, hK, hc0⟩ := Kd.C_get h z29 i h0 h1
  have hc : ∀ j u, c[j]? = some u → w.cell? (ad.add (i.toNat * 21 + j)) = some u := hc0
  obtain ⟨A16, c16, A19, c19, A20, c20, rfl, l16, g16, l19, g19, l20, g20⟩ := k29_open hK
  exact ⟨ad, A16, c16, A19, c19, A20, c20, e, hc 0 _ rfl, by rw [← add_field _ _ 1 (by omega)]; exact hc 1 _ rfl, by rw [← add_field _ _ 2 (by omega)]; exact hc 2 _ rfl, by rw [← add_field _ _ 3 (by omega)]; exact hc 3 _ rfl, by rw [← add_field _ _ 4 (by omega)]; exact hc 4 _ rfl, by rw [← add_field _ _ 5 (by omega)]; exact hc 5 _ rfl, by rw [← add_field _ _ 6 (by omega)]; exact hc 6 _ rfl, by rw [← add_field _ _ 7 (by omega)]; exact hc 7 _ rfl, by rw [← add_field _ _ 8 (by omega)]; exact hc 8 _ rfl, by rw [← add_field _ _ 9 (by omega)]; exact hc 9 _ rfl, by rw [← add_field _ _ 10 (by omega)]; exact hc 10 _ rfl, by rw [← add_field _ _ 11 (by omega)]; exact hc 11 _ rfl, by rw [← add_field _ _ 12 (by omega)]; exact hc 12 _ rfl, by rw [← add_field _ _ 13 (by omega)]; exact hc 13 _ rfl, by rw [← add_field _ _ 14 (by omega)]; exact hc 14 _ rfl, by rw [← add_field _ _ 15 (by omega)]; exact hc 15 _ rfl, by rw [← add_field _ _ 16 (by omega)]; exact hc 16 _ rfl, by rw [← add_field _ _ 17 (by omega)]; exact hc 17 _ rfl, by rw [← add_field _ _ 18 (by omega)]; exact hc 18 _ rfl, by rw [← add_field _ _ 19 (by omega)]; exact hc 19 _ rfl, by rw [← add_field _ _ 20 (by omega)]; exact hc 20 _ rfl, l16, g16, l19, g19, l20, g20⟩

/-! #### struct type 37 -/
structure S37 where
  f0 : ByteArray
  f1 : ByteArray
  f2 : ByteArray
  f3 : ByteArray
def z37 : S37 := ⟨(⟨#[]⟩ : ByteArray), (⟨#[]⟩ : ByteArray), (⟨#[]⟩ : ByteArray), (⟨#[]⟩ : ByteArray)⟩
def k37 : Kd S37 := Kd.iso (Kd.pair Kd.string (Kd.pair Kd.string (Kd.pair Kd.string Kd.string))) (fun x : S37 => (x.f0, x.f1, x.f2, x.f3))
theorem k37_open {w : World} {x : S37} {cs : List Value} (h : k37.K w x cs) : cs = [.string x.f0, .string x.f1, .string x.f2, .string x.f3] := by
  obtain ⟨_, _, rfl, rfl, ⟨_, _, rfl, rfl, ⟨_, _, rfl, rfl, rfl⟩⟩⟩ := h
  exact rfl
theorem k37_openM {w : World} {base : Nat} {ok : Nat → Prop} {x : S37} {cs : List Value} (h : k37.M w base ok x cs) : cs = [.string x.f0, .string x.f1, .string x.f2, .string x.f3] := by
  obtain ⟨_, _, rfl, rfl, ⟨_, _, rfl, rfl, ⟨_, _, rfl, rfl, rfl⟩⟩⟩ := h
  exact rfl
theorem k37_mk (w : World) (x : S37)  : k37.K w x [.string x.f0, .string x.f1, .string x.f2, .string x.f3] := ⟨[.string x.f0], [.string x.f1, .string x.f2, .string x.f3], rfl, rfl, ⟨[.string x.f1], [.string x.f2, .string x.f3], rfl, rfl, ⟨[.string x.f2], [.string x.f3], rfl, rfl, rfl⟩⟩⟩
theorem k37_mkM (w : World) (base : Nat) (ok : Nat → Prop) (x : S37)  : k37.M w base ok x [.string x.f0, .string x.f1, .string x.f2, .string x.f3] := ⟨[.string x.f0], [.string x.f1, .string x.f2, .string x.f3], rfl, rfl, ⟨[.string x.f1], [.string x.f2, .string x.f3], rfl, rfl, ⟨[.string x.f2], [.string x.f3], rfl, rfl, rfl⟩⟩⟩
theorem k37_mkF (W : World) (ok : Nat → Prop) (x : S37) : Kd.FK k37 W ok x [.string x.f0, .string x.f1, .string x.f2, .string x.f3] := fun W2 _ => k37_mk W2 x
def rd_T37 (xs : List S37) (i : Int) : S37 := xs.getD i.toNat z37
theorem at_T37 {w : World} {A : Option Addr} {n : Nat} {xs : List S37} (h : Kd.C k37 w A n xs) (i : Int) (h0 : 0 ≤ i) (h1 : i < n) : ∃ ad , A = some ad ∧ w.cell? (ad.add (i.toNat * 4)) = some (.string (rd_T37 xs i).f0) ∧ w.cell? ⟨(ad.add (i.toNat * 4)).block, (ad.add (i.toNat * 4)).off + 1, none⟩ = some (.string (rd_T37 xs i).f1) ∧ w.cell? ⟨(ad.add (i.toNat * 4)).block, (ad.add (i.toNat * 4)).off + 2, none⟩ = some (.string (rd_T37 xs i).f2) ∧ w.cell? ⟨(ad.add (i.toNat * 4)).block, (ad.add (i.toNat * 4)).off + 3, none⟩ = some (.string (rd_T37 xs i).f3) := by
  obtain ⟨ad, c, e, _, hK, hc0⟩ := Kd.C_get h z37 i h0 h1
  have hc : ∀ j u, c[j]? = some u → w.cell? (ad.add (i.toNat * 4 + j)) = some u := hc0
  obtain rfl := k37_open hK
  exact ⟨ad, e, hc 0 _ rfl, by rw [← add_field _ _ 1 (by omega)]; exact hc 1 _ rfl, by rw [← add_field _ _ 2 (by omega)]; exact hc 2 _ rfl, by rw [← add_field _ _ 3 (by omega)]; exact hc 3 _ rfl⟩

/-! #### struct type 92 -/
structure S92 where
  f0 : Int
  f1 : Int
  f2 : Int
  f3 : Int
def z92 : S92 := ⟨(0 : Int), (0 : Int), (0 : Int), (0 : Int)⟩
def k92 : Kd S92 := Kd.iso (Kd.pair (Kd.int .i64) (Kd.pair (Kd.int .i64) (Kd.pair (Kd.int .i64) (Kd.int .i64)))) (fun x : S92 => (x.f0, x.f1, x.f2, x.f3))
theorem k92_open {w : World} {x : S92} {cs : List Value} (h : k92.K w x cs) : cs = [.int .i64 x.f0, .int .i64 x.f1, .int .i64 x.f2, .int .i64 x.f3] := by
  obtain ⟨_, _, rfl, rfl, ⟨_, _, rfl, rfl, ⟨_, _, rfl, rfl, rfl⟩⟩⟩ := h
  exact rfl
theorem k92_openM {w : World} {base : Nat} {ok : Nat → Prop} {x : S92} {cs : List Value} (h : k92.M w base ok x cs) : cs = [.int .i64 x.f0, .int .i64 x.f1, .int .i64 x.f2, .int .i64 x.f3] := by
  obtain ⟨_, _, rfl, rfl, ⟨_, _, rfl, rfl, ⟨_, _, rfl, rfl, rfl⟩⟩⟩ := h
  exact rfl
theorem k92_mk (w : World) (x : S92)  : k92.K w x [.int .i64 x.f0, .int .i64 x.f1, .int .i64 x.f2, .int .i64 x.f3] := ⟨[.int .i64 x.f0], [.int .i64 x.f1, .int .i64 x.f2, .int .i64 x.f3], rfl, rfl, ⟨[.int .i64 x.f1], [.int .i64 x.f2, .int .i64 x.f3], rfl, rfl, ⟨[.int .i64 x.f2], [.int .i64 x.f3], rfl, rfl, rfl⟩⟩⟩
theorem k92_mkM (w : World) (base : Nat) (ok : Nat → Prop) (x : S92)  : k92.M w base ok x [.int .i64 x.f0, .int .i64 x.f1, .int .i64 x.f2, .int .i64 x.f3] := ⟨[.int .i64 x.f0], [.int .i64 x.f1, .int .i64 x.f2, .int .i64 x.f3], rfl, rfl, ⟨[.int .i64 x.f1], [.int .i64 x.f2, .int .i64 x.f3], rfl, rfl, ⟨[.int .i64 x.f2], [.int .i64 x.f3], rfl, rfl, rfl⟩⟩⟩
theorem k92_mkF (W : World) (ok : Nat → Prop) (x : S92) : Kd.FK k92 W ok x [.int .i64 x.f0, .int .i64 x.f1, .int .i64 x.f2, .int .i64 x.f3] := fun W2 _ => k92_mk W2 x
def rd_T92 (xs : List S92) (i : Int) : S92 := xs.getD i.toNat z92
theorem at_T92 {w : World} {A : Option Addr} {n : Nat} {xs : List S92} (h : Kd.C k92 w A n xs) (i : Int) (h0 : 0 ≤ i) (h1 : i < n) : ∃ ad , A = some ad ∧ w.cell? (ad.add (i.toNat * 4)) = some (.int .i64 (rd_T92 xs i).f0) ∧ w.cell? ⟨(ad.add (i.toNat * 4)).block, (ad.add (i.toNat * 4)).off + 1, none⟩ = some (.int .i64 (rd_T92 xs i).f1) ∧ w.cell? ⟨(ad.add (i.toNat * 4)).block, (ad.add (i.toNat * 4)).off + 2, none⟩ = some (.int .i64 (rd_T92 xs i).f2) ∧ w.cell? ⟨(ad.add (i.toNat * 4)).block, (ad.add (i.toNat * 4)).off + 3, none⟩ = some (.int .i64 (rd_T92 xs i).f3) := by
  obtain ⟨ad, c, e, _, hK, hc0⟩ := Kd.C_get h z92 i h0 h1
  have hc : ∀ j u, c[j]? = some u → w.cell? (ad.add (i.toNat * 4 + j)) = some u := hc0
  obtain rfl := k92_open hK
  exact ⟨ad, e, hc 0 _ rfl, by rw [← add_field _ _ 1 (by omega)]; exact hc 1 _ rfl, by rw [← add_field _ _ 2 (by omega)]; exact hc 2 _ rfl, by rw [← add_field _ _ 3 (by omega)]; exact hc 3 _ rfl⟩

end Go.Proofs.Ythdjodamdakjbaa.MK
