/- ResidueBack: part 2 of its proof. -/
import Derived.Test.YthapknnppabdaaaGreatProg
import Derived.Below
import Derived.Deep.Draws
import Derived.Deep.AppendLies
import Derived.Maps.AppendAt
import Derived.OwnWalk
import Derived.Laws.BytesArg
import Derived.Laws.MakeOwn
import Derived.Laws.OwnMore
import Derived.Deep.OwnRows
import Derived.Tactics
import Derived.Lib.ConvBytes
import Derived.Laws.Slices
import Derived.WalkKit
import Derived.KernelRfl
import Derived.RowKit3
import Derived.Deep.LoopGhost
import Derived.Deep.QuietTactic
import Derived.BigQuiet
import Derived.WideLaws
import Derived.Deep.DeepCutAuto
import Derived.Deep.CutBlock
import Derived.Deep.RegionHeld3
import Derived.Laws.Rows
import Derived.Lib.AppendStr
import Derived.ArgAppend
import Derived.Laws.IdiomCopy
import Derived.OrdersHeld
import Derived.Laws.BitsLemmas
import Derived.RowKit
import Derived.Test.YthapknnppabdaaaGreatZ00
import Derived.Test.YthapknnppabdaaaGreatZ01
namespace Go.Proofs.YthapknnppabdaaaGreat.MQ
open Go.RowKit Go.Proofs.YthapknnppabdaaaGreatW.PrintWords Go.Proofs.YthapknnppabdaaaGreatW.PrintLast Go.Proofs.YthapknnppabdaaaGreatW.PrintMore
attribute [local go_sem] max2_int min2_int max_two min_two max_three min_three max_four min_four   -- for this text's walks alone
set_option linter.unusedVariables false
set_option linter.unusedSimpArgs false



theorem info3 : (Tryz.prog.info? 3).map (fun i => (i.zero, i.size, i.bytes)) = some (some (.int .i64 0), 1, 8) := by kernel_rfl
theorem info5 : (Tryz.prog.info? 5).map (fun i => (i.zero, i.size, i.bytes)) = some (some (.int .u8 0), 1, 1) := by kernel_rfl
theorem info9 : (Tryz.prog.info? 9).map (fun i => (i.zero, i.size, i.bytes)) = some (some (.string ⟨#[]⟩), 1, 16) := by kernel_rfl
theorem info46 : (Tryz.prog.info? 46).map (fun i => (i.zero, i.size, i.bytes)) = some (some (.agg #[(.int .i64 0), (.slice none 0 0)]), 2, 32) := by kernel_rfl
theorem info50 : (Tryz.prog.info? 50).map (fun i => (i.zero, i.size, i.bytes)) = some (some (.agg #[(.int .i64 0), (.slice none 0 0)]), 2, 32) := by kernel_rfl
structure S46 where
  f0 : Int
  f1 : (List Int)
def z46 : S46 := ⟨(0 : Int), ([] : List Int)⟩
def k46 : Kd S46 := Kd.iso (Kd.pair (Kd.int .i64) (Kd.slice 5 (Kd.int .u8))) (fun x : S46 => (x.f0, x.f1))
theorem k46_open {w : World} {x : S46} {cs : List Value} (h : k46.K w x cs) : ∃ A1 c1, cs = [.int .i64 x.f0, .slice A1 x.f1.length c1] ∧ x.f1.length ≤ c1 ∧ (Kd.int .u8).C w A1 x.f1.length x.f1 := by
  obtain ⟨_, _, rfl, rfl, ⟨A1, c1, rfl, l1, g1⟩⟩ := h
  exact ⟨A1, c1, rfl, l1, g1⟩
theorem k46_mk (w : World) (x : S46) {A1 : Option Addr} {c1 : Nat} (l1 : x.f1.length ≤ c1) (g1 : (Kd.int .u8).C w A1 x.f1.length x.f1) : k46.K w x [.int .i64 x.f0, .slice A1 x.f1.length c1] := ⟨[.int .i64 x.f0], [.slice A1 x.f1.length c1], rfl, rfl, ⟨A1, c1, rfl, l1, g1⟩⟩
theorem k46_mkM (w : World) (base : Nat) (ok : Nat → Prop) (x : S46) {v1 : Value} (g1 : (Kd.int .u8).R 5 w base ok v1 x.f1) : k46.M w base ok x [.int .i64 x.f0, v1] := ⟨[.int .i64 x.f0], [v1], rfl, rfl, ⟨v1, rfl, g1⟩⟩
def rd_T46 (xs : List S46) (i : Int) : S46 := xs.getD i.toNat z46
theorem at_T46 {w : World} {A : Option Addr} {n : Nat} {xs : List S46} (h : Kd.C k46 w A n xs) (i : Int) (h0 : 0 ≤ i) (h1 : i < n) : ∃ ad A1 c1, A = some ad ∧ w.cell? (ad.add (i.toNat * 2)) = some (.int .i64 (rd_T46 xs i).f0) ∧ w.cell? ⟨(ad.add (i.toNat * 2)).block, (ad.add (i.toNat * 2)).off + 1, none⟩ = some (.slice A1 (rd_T46 xs i).f1.length c1) ∧ (rd_T46 xs i).f1.length ≤ c1 ∧ (Kd.int .u8).C w A1 (rd_T46 xs i).f1.length (rd_T46 xs i).f1 := by
  obtain ⟨ad, c, e, _, hK, hc0⟩ := Kd.C_get h z46 i h0 h1
  have hc : ∀ j u, c[j]? = some u → w.cell? (ad.add (i.toNat * 2 + j)) = some u := hc0
  obtain ⟨A1, c1, rfl, l1, g1⟩ := k46_open hK
  exact ⟨ad, A1, c1, e, hc 0 _ rfl, by rw [← add_field _ _ 1 (by omega)]; exact hc 1 _ rfl, l1, g1⟩

structure S48 where
  f0 : ByteArray
  f1 : ByteArray
def z48 : S48 := ⟨(⟨#[]⟩ : ByteArray), (⟨#[]⟩ : ByteArray)⟩
def k48 : Kd S48 := Kd.iso (Kd.pair Kd.string Kd.string) (fun x : S48 => (x.f0, x.f1))
theorem k48_open {w : World} {x : S48} {cs : List Value} (h : k48.K w x cs) : cs = [.string x.f0, .string x.f1] := by
  obtain ⟨_, _, rfl, rfl, rfl⟩ := h
  exact rfl
theorem k48_mkM (w : World) (base : Nat) (ok : Nat → Prop) (x : S48)  : k48.M w base ok x [.string x.f0, .string x.f1] := ⟨[.string x.f0], [.string x.f1], rfl, rfl, rfl⟩
def rd_T48 (xs : List S48) (i : Int) : S48 := xs.getD i.toNat z48
theorem at_T48 {w : World} {A : Option Addr} {n : Nat} {xs : List S48} (h : Kd.C k48 w A n xs) (i : Int) (h0 : 0 ≤ i) (h1 : i < n) : ∃ ad , A = some ad ∧ w.cell? (ad.add (i.toNat * 2)) = some (.string (rd_T48 xs i).f0) ∧ w.cell? ⟨(ad.add (i.toNat * 2)).block, (ad.add (i.toNat * 2)).off + 1, none⟩ = some (.string (rd_T48 xs i).f1) := by
  obtain ⟨ad, c, e, _, hK, hc0⟩ := Kd.C_get h z48 i h0 h1
  have hc : ∀ j u, c[j]? = some u → w.cell? (ad.add (i.toNat * 2 + j)) = some u := hc0
  obtain rfl := k48_open hK
  exact ⟨ad, e, hc 0 _ rfl, by rw [← add_field _ _ 1 (by omega)]; exact hc 1 _ rfl⟩

structure S50 where
  f0 : Int
  f1 : (List Int)
def z50 : S50 := ⟨(0 : Int), ([] : List Int)⟩
def k50 : Kd S50 := Kd.iso (Kd.pair (Kd.int .i64) (Kd.slice 5 (Kd.int .u8))) (fun x : S50 => (x.f0, x.f1))
theorem k50_open {w : World} {x : S50} {cs : List Value} (h : k50.K w x cs) : ∃ A1 c1, cs = [.int .i64 x.f0, .slice A1 x.f1.length c1] ∧ x.f1.length ≤ c1 ∧ (Kd.int .u8).C w A1 x.f1.length x.f1 := by
  obtain ⟨_, _, rfl, rfl, ⟨A1, c1, rfl, l1, g1⟩⟩ := h
  exact ⟨A1, c1, rfl, l1, g1⟩
theorem k50_mk (w : World) (x : S50) {A1 : Option Addr} {c1 : Nat} (l1 : x.f1.length ≤ c1) (g1 : (Kd.int .u8).C w A1 x.f1.length x.f1) : k50.K w x [.int .i64 x.f0, .slice A1 x.f1.length c1] := ⟨[.int .i64 x.f0], [.slice A1 x.f1.length c1], rfl, rfl, ⟨A1, c1, rfl, l1, g1⟩⟩
theorem k50_mkM (w : World) (base : Nat) (ok : Nat → Prop) (x : S50) {v1 : Value} (g1 : (Kd.int .u8).R 5 w base ok v1 x.f1) : k50.M w base ok x [.int .i64 x.f0, v1] := ⟨[.int .i64 x.f0], [v1], rfl, rfl, ⟨v1, rfl, g1⟩⟩
def rd_T50 (xs : List S50) (i : Int) : S50 := xs.getD i.toNat z50
theorem at_T50 {w : World} {A : Option Addr} {n : Nat} {xs : List S50} (h : Kd.C k50 w A n xs) (i : Int) (h0 : 0 ≤ i) (h1 : i < n) : ∃ ad A1 c1, A = some ad ∧ w.cell? (ad.add (i.toNat * 2)) = some (.int .i64 (rd_T50 xs i).f0) ∧ w.cell? ⟨(ad.add (i.toNat * 2)).block, (ad.add (i.toNat * 2)).off + 1, none⟩ = some (.slice A1 (rd_T50 xs i).f1.length c1) ∧ (rd_T50 xs i).f1.length ≤ c1 ∧ (Kd.int .u8).C w A1 (rd_T50 xs i).f1.length (rd_T50 xs i).f1 := by
  obtain ⟨ad, c, e, _, hK, hc0⟩ := Kd.C_get h z50 i h0 h1
  have hc : ∀ j u, c[j]? = some u → w.cell? (ad.add (i.toNat * 2 + j)) = some u := hc0
  obtain ⟨A1, c1, rfl, l1, g1⟩ := k50_open hK
  exact ⟨ad, A1, c1, e, hc 0 _ rfl, by rw [← add_field _ _ 1 (by omega)]; exact hc 1 _ rfl, l1, g1⟩

structure S35 where
  f0 : ByteArray
  f1 : ByteArray
  f2 : ByteArray
  f3 : (List S48)
  f4 : (List S50)
def k35 : Kd S35 := Kd.iso (Kd.pair Kd.string (Kd.pair Kd.string (Kd.pair Kd.string (Kd.pair (Kd.slice 48 k48) (Kd.slice 50 k50))))) (fun x : S35 => (x.f0, x.f1, x.f2, x.f3, x.f4))
theorem k35_open {w : World} {x : S35} {cs : List Value} (h : k35.K w x cs) : ∃ A3 c3 A4 c4, cs = [.string x.f0, .string x.f1, .string x.f2, .slice A3 x.f3.length c3, .slice A4 x.f4.length c4] ∧ x.f3.length ≤ c3 ∧ k48.C w A3 x.f3.length x.f3 ∧ x.f4.length ≤ c4 ∧ k50.C w A4 x.f4.length x.f4 := by
  obtain ⟨_, _, rfl, rfl, ⟨_, _, rfl, rfl, ⟨_, _, rfl, rfl, ⟨_, _, rfl, ⟨A3, c3, rfl, l3, g3⟩, ⟨A4, c4, rfl, l4, g4⟩⟩⟩⟩⟩ := h
  exact ⟨A3, c3, A4, c4, rfl, l3, g3, l4, g4⟩
theorem k35_mk (w : World) (x : S35) {A3 : Option Addr} {c3 : Nat} (l3 : x.f3.length ≤ c3) (g3 : k48.C w A3 x.f3.length x.f3) {A4 : Option Addr} {c4 : Nat} (l4 : x.f4.length ≤ c4) (g4 : k50.C w A4 x.f4.length x.f4) : k35.K w x [.string x.f0, .string x.f1, .string x.f2, .slice A3 x.f3.length c3, .slice A4 x.f4.length c4] := ⟨[.string x.f0], [.string x.f1, .string x.f2, .slice A3 x.f3.length c3, .slice A4 x.f4.length c4], rfl, rfl, ⟨[.string x.f1], [.string x.f2, .slice A3 x.f3.length c3, .slice A4 x.f4.length c4], rfl, rfl, ⟨[.string x.f2], [.slice A3 x.f3.length c3, .slice A4 x.f4.length c4], rfl, rfl, ⟨[.slice A3 x.f3.length c3], [.slice A4 x.f4.length c4], rfl, ⟨A3, c3, rfl, l3, g3⟩, ⟨A4, c4, rfl, l4, g4⟩⟩⟩⟩⟩
structure S56 where
  f0 : ByteArray
  f1 : ByteArray
  f2 : ByteArray
  f3 : ByteArray
def z56 : S56 := ⟨(⟨#[]⟩ : ByteArray), (⟨#[]⟩ : ByteArray), (⟨#[]⟩ : ByteArray), (⟨#[]⟩ : ByteArray)⟩
def k56 : Kd S56 := Kd.iso (Kd.pair Kd.string (Kd.pair Kd.string (Kd.pair Kd.string Kd.string))) (fun x : S56 => (x.f0, x.f1, x.f2, x.f3))
theorem k56_open {w : World} {x : S56} {cs : List Value} (h : k56.K w x cs) : cs = [.string x.f0, .string x.f1, .string x.f2, .string x.f3] := by
  obtain ⟨_, _, rfl, rfl, ⟨_, _, rfl, rfl, ⟨_, _, rfl, rfl, rfl⟩⟩⟩ := h
  exact rfl
theorem k56_mkM (w : World) (base : Nat) (ok : Nat → Prop) (x : S56)  : k56.M w base ok x [.string x.f0, .string x.f1, .string x.f2, .string x.f3] := ⟨[.string x.f0], [.string x.f1, .string x.f2, .string x.f3], rfl, rfl, ⟨[.string x.f1], [.string x.f2, .string x.f3], rfl, rfl, ⟨[.string x.f2], [.string x.f3], rfl, rfl, rfl⟩⟩⟩
def rd_T56 (xs : List S56) (i : Int) : S56 := xs.getD i.toNat z56
theorem at_T56 {w : World} {A : Option Addr} {n : Nat} {xs : List S56} (h : Kd.C k56 w A n xs) (i : Int) (h0 : 0 ≤ i) (h1 : i < n) : ∃ ad , A = some ad ∧ w.cell? (ad.add (i.toNat * 4)) = some (.string (rd_T56 xs i).f0) ∧ w.cell? ⟨(ad.add (i.toNat * 4)).block, (ad.add (i.toNat * 4)).off + 1, none⟩ = some (.string (rd_T56 xs i).f1) ∧ w.cell? ⟨(ad.add (i.toNat * 4)).block, (ad.add (i.toNat * 4)).off + 2, none⟩ = some (.string (rd_T56 xs i).f2) ∧ w.cell? ⟨(ad.add (i.toNat * 4)).block, (ad.add (i.toNat * 4)).off + 3, none⟩ = some (.string (rd_T56 xs i).f3) := by
  obtain ⟨ad, c, e, _, hK, hc0⟩ := Kd.C_get h z56 i h0 h1
  have hc : ∀ j u, c[j]? = some u → w.cell? (ad.add (i.toNat * 4 + j)) = some u := hc0
  obtain rfl := k56_open hK
  exact ⟨ad, e, hc 0 _ rfl, by rw [← add_field _ _ 1 (by omega)]; exact hc 1 _ rfl, by rw [← add_field _ _ 2 (by omega)]; exact hc 2 _ rfl, by rw [← add_field _ _ 3 (by omega)]; exact hc 3 _ rfl⟩

structure S114 where
  f0 : Int
  f1 : Int
  f2 : Int
  f3 : Int
def z114 : S114 := ⟨(0 : Int), (0 : Int), (0 : Int), (0 : Int)⟩
def k114 : Kd S114 := Kd.iso (Kd.pair (Kd.int .i64) (Kd.pair (Kd.int .i64) (Kd.pair (Kd.int .i64) (Kd.int .i64)))) (fun x : S114 => (x.f0, x.f1, x.f2, x.f3))
theorem k114_open {w : World} {x : S114} {cs : List Value} (h : k114.K w x cs) : cs = [.int .i64 x.f0, .int .i64 x.f1, .int .i64 x.f2, .int .i64 x.f3] := by
  obtain ⟨_, _, rfl, rfl, ⟨_, _, rfl, rfl, ⟨_, _, rfl, rfl, rfl⟩⟩⟩ := h
  exact rfl
theorem k114_mk (w : World) (x : S114)  : k114.K w x [.int .i64 x.f0, .int .i64 x.f1, .int .i64 x.f2, .int .i64 x.f3] := ⟨[.int .i64 x.f0], [.int .i64 x.f1, .int .i64 x.f2, .int .i64 x.f3], rfl, rfl, ⟨[.int .i64 x.f1], [.int .i64 x.f2, .int .i64 x.f3], rfl, rfl, ⟨[.int .i64 x.f2], [.int .i64 x.f3], rfl, rfl, rfl⟩⟩⟩
def rd_T114 (xs : List S114) (i : Int) : S114 := xs.getD i.toNat z114
theorem at_T114 {w : World} {A : Option Addr} {n : Nat} {xs : List S114} (h : Kd.C k114 w A n xs) (i : Int) (h0 : 0 ≤ i) (h1 : i < n) : ∃ ad , A = some ad ∧ w.cell? (ad.add (i.toNat * 4)) = some (.int .i64 (rd_T114 xs i).f0) ∧ w.cell? ⟨(ad.add (i.toNat * 4)).block, (ad.add (i.toNat * 4)).off + 1, none⟩ = some (.int .i64 (rd_T114 xs i).f1) ∧ w.cell? ⟨(ad.add (i.toNat * 4)).block, (ad.add (i.toNat * 4)).off + 2, none⟩ = some (.int .i64 (rd_T114 xs i).f2) ∧ w.cell? ⟨(ad.add (i.toNat * 4)).block, (ad.add (i.toNat * 4)).off + 3, none⟩ = some (.int .i64 (rd_T114 xs i).f3) := by
  obtain ⟨ad, c, e, _, hK, hc0⟩ := Kd.C_get h z114 i h0 h1
  have hc : ∀ j u, c[j]? = some u → w.cell? (ad.add (i.toNat * 4 + j)) = some u := hc0
  obtain rfl := k114_open hK
  exact ⟨ad, e, hc 0 _ rfl, by rw [← add_field _ _ 1 (by omega)]; exact hc 1 _ rfl, by rw [← add_field _ _ 2 (by omega)]; exact hc 2 _ rfl, by rw [← add_field _ _ 3 (by omega)]; exact hc 3 _ rfl⟩

structure S130 where
  f0 : ByteArray
  f1 : ByteArray
def z130 : S130 := ⟨(⟨#[]⟩ : ByteArray), (⟨#[]⟩ : ByteArray)⟩
def k130 : Kd S130 := Kd.iso (Kd.pair Kd.string Kd.string) (fun x : S130 => (x.f0, x.f1))
theorem k130_open {w : World} {x : S130} {cs : List Value} (h : k130.K w x cs) : cs = [.string x.f0, .string x.f1] := by
  obtain ⟨_, _, rfl, rfl, rfl⟩ := h
  exact rfl
theorem k130_mkM (w : World) (base : Nat) (ok : Nat → Prop) (x : S130)  : k130.M w base ok x [.string x.f0, .string x.f1] := ⟨[.string x.f0], [.string x.f1], rfl, rfl, rfl⟩
def rd_T130 (xs : List S130) (i : Int) : S130 := xs.getD i.toNat z130
theorem at_T130 {w : World} {A : Option Addr} {n : Nat} {xs : List S130} (h : Kd.C k130 w A n xs) (i : Int) (h0 : 0 ≤ i) (h1 : i < n) : ∃ ad , A = some ad ∧ w.cell? (ad.add (i.toNat * 2)) = some (.string (rd_T130 xs i).f0) ∧ w.cell? ⟨(ad.add (i.toNat * 2)).block, (ad.add (i.toNat * 2)).off + 1, none⟩ = some (.string (rd_T130 xs i).f1) := by
  obtain ⟨ad, c, e, _, hK, hc0⟩ := Kd.C_get h z130 i h0 h1
  have hc : ∀ j u, c[j]? = some u → w.cell? (ad.add (i.toNat * 2 + j)) = some u := hc0
  obtain rfl := k130_open hK
  exact ⟨ad, e, hc 0 _ rfl, by rw [← add_field _ _ 1 (by omega)]; exact hc 1 _ rfl⟩

structure S133 where
  f0 : Int
  f1 : ByteArray
  f2 : ByteArray
  f3 : (List S130)
def z133 : S133 := ⟨(0 : Int), (⟨#[]⟩ : ByteArray), (⟨#[]⟩ : ByteArray), ([] : List S130)⟩
def k133 : Kd S133 := Kd.iso (Kd.pair (Kd.int .i64) (Kd.pair Kd.string (Kd.pair Kd.string (Kd.slice 130 k130)))) (fun x : S133 => (x.f0, x.f1, x.f2, x.f3))
theorem k133_open {w : World} {x : S133} {cs : List Value} (h : k133.K w x cs) : ∃ A3 c3, cs = [.int .i64 x.f0, .string x.f1, .string x.f2, .slice A3 x.f3.length c3] ∧ x.f3.length ≤ c3 ∧ k130.C w A3 x.f3.length x.f3 := by
  obtain ⟨_, _, rfl, rfl, ⟨_, _, rfl, rfl, ⟨_, _, rfl, rfl, ⟨A3, c3, rfl, l3, g3⟩⟩⟩⟩ := h
  exact ⟨A3, c3, rfl, l3, g3⟩
theorem k133_mkM (w : World) (base : Nat) (ok : Nat → Prop) (x : S133) {v3 : Value} (g3 : k130.R 130 w base ok v3 x.f3) : k133.M w base ok x [.int .i64 x.f0, .string x.f1, .string x.f2, v3] := ⟨[.int .i64 x.f0], [.string x.f1, .string x.f2, v3], rfl, rfl, ⟨[.string x.f1], [.string x.f2, v3], rfl, rfl, ⟨[.string x.f2], [v3], rfl, rfl, ⟨v3, rfl, g3⟩⟩⟩⟩
def rd_T133 (xs : List S133) (i : Int) : S133 := xs.getD i.toNat z133
theorem at_T133 {w : World} {A : Option Addr} {n : Nat} {xs : List S133} (h : Kd.C k133 w A n xs) (i : Int) (h0 : 0 ≤ i) (h1 : i < n) : ∃ ad A3 c3, A = some ad ∧ w.cell? (ad.add (i.toNat * 4)) = some (.int .i64 (rd_T133 xs i).f0) ∧ w.cell? ⟨(ad.add (i.toNat * 4)).block, (ad.add (i.toNat * 4)).off + 1, none⟩ = some (.string (rd_T133 xs i).f1) ∧ w.cell? ⟨(ad.add (i.toNat * 4)).block, (ad.add (i.toNat * 4)).off + 2, none⟩ = some (.string (rd_T133 xs i).f2) ∧ w.cell? ⟨(ad.add (i.toNat * 4)).block, (ad.add (i.toNat * 4)).off + 3, none⟩ = some (.slice A3 (rd_T133 xs i).f3.length c3) ∧ (rd_T133 xs i).f3.length ≤ c3 ∧ k130.C w A3 (rd_T133 xs i).f3.length (rd_T133 xs i).f3 := by
  obtain ⟨ad, c, e, _, hK, hc0⟩ := Kd.C_get h z133 i h0 h1
  have hc : ∀ j u, c[j]? = some u → w.cell? (ad.add (i.toNat * 4 + j)) = some u := hc0
  obtain ⟨A3, c3, rfl, l3, g3⟩ := k133_open hK
  exact ⟨ad, A3, c3, e, hc 0 _ rfl, by rw [← add_field _ _ 1 (by omega)]; exact hc 1 _ rfl, by rw [← add_field _ _ 2 (by omega)]; exact hc 2 _ rfl, by rw [← add_field _ _ 3 (by omega)]; exact hc 3 _ rfl, l3, g3⟩

structure S148 where
  f0 : ByteArray
  f1 : Int
  f2 : Int
  f3 : Int
  f4 : Int
  f5 : Int
def z148 : S148 := ⟨(⟨#[]⟩ : ByteArray), (0 : Int), (0 : Int), (0 : Int), (0 : Int), (0 : Int)⟩
def k148 : Kd S148 := Kd.iso (Kd.pair Kd.string (Kd.pair (Kd.int .i64) (Kd.pair (Kd.int .i64) (Kd.pair (Kd.int .i64) (Kd.pair (Kd.int .i64) (Kd.int .i64)))))) (fun x : S148 => (x.f0, x.f1, x.f2, x.f3, x.f4, x.f5))
theorem k148_open {w : World} {x : S148} {cs : List Value} (h : k148.K w x cs) : cs = [.string x.f0, .int .i64 x.f1, .int .i64 x.f2, .int .i64 x.f3, .int .i64 x.f4, .int .i64 x.f5] := by
  obtain ⟨_, _, rfl, rfl, ⟨_, _, rfl, rfl, ⟨_, _, rfl, rfl, ⟨_, _, rfl, rfl, ⟨_, _, rfl, rfl, rfl⟩⟩⟩⟩⟩ := h
  exact rfl
theorem k148_mk (w : World) (x : S148)  : k148.K w x [.string x.f0, .int .i64 x.f1, .int .i64 x.f2, .int .i64 x.f3, .int .i64 x.f4, .int .i64 x.f5] := ⟨[.string x.f0], [.int .i64 x.f1, .int .i64 x.f2, .int .i64 x.f3, .int .i64 x.f4, .int .i64 x.f5], rfl, rfl, ⟨[.int .i64 x.f1], [.int .i64 x.f2, .int .i64 x.f3, .int .i64 x.f4, .int .i64 x.f5], rfl, rfl, ⟨[.int .i64 x.f2], [.int .i64 x.f3, .int .i64 x.f4, .int .i64 x.f5], rfl, rfl, ⟨[.int .i64 x.f3], [.int .i64 x.f4, .int .i64 x.f5], rfl, rfl, ⟨[.int .i64 x.f4], [.int .i64 x.f5], rfl, rfl, rfl⟩⟩⟩⟩⟩
def rd_T148 (xs : List S148) (i : Int) : S148 := xs.getD i.toNat z148
theorem at_T148 {w : World} {A : Option Addr} {n : Nat} {xs : List S148} (h : Kd.C k148 w A n xs) (i : Int) (h0 : 0 ≤ i) (h1 : i < n) : ∃ ad , A = some ad ∧ w.cell? (ad.add (i.toNat * 6)) = some (.string (rd_T148 xs i).f0) ∧ w.cell? ⟨(ad.add (i.toNat * 6)).block, (ad.add (i.toNat * 6)).off + 1, none⟩ = some (.int .i64 (rd_T148 xs i).f1) ∧ w.cell? ⟨(ad.add (i.toNat * 6)).block, (ad.add (i.toNat * 6)).off + 2, none⟩ = some (.int .i64 (rd_T148 xs i).f2) ∧ w.cell? ⟨(ad.add (i.toNat * 6)).block, (ad.add (i.toNat * 6)).off + 3, none⟩ = some (.int .i64 (rd_T148 xs i).f3) ∧ w.cell? ⟨(ad.add (i.toNat * 6)).block, (ad.add (i.toNat * 6)).off + 4, none⟩ = some (.int .i64 (rd_T148 xs i).f4) ∧ w.cell? ⟨(ad.add (i.toNat * 6)).block, (ad.add (i.toNat * 6)).off + 5, none⟩ = some (.int .i64 (rd_T148 xs i).f5) := by
  obtain ⟨ad, c, e, _, hK, hc0⟩ := Kd.C_get h z148 i h0 h1
  have hc : ∀ j u, c[j]? = some u → w.cell? (ad.add (i.toNat * 6 + j)) = some u := hc0
  obtain rfl := k148_open hK
  exact ⟨ad, e, hc 0 _ rfl, by rw [← add_field _ _ 1 (by omega)]; exact hc 1 _ rfl, by rw [← add_field _ _ 2 (by omega)]; exact hc 2 _ rfl, by rw [← add_field _ _ 3 (by omega)]; exact hc 3 _ rfl, by rw [← add_field _ _ 4 (by omega)]; exact hc 4 _ rfl, by rw [← add_field _ _ 5 (by omega)]; exact hc 5 _ rfl⟩

structure S24 where
  f0 : Int
  f1 : ByteArray
def k24 : Kd S24 := Kd.iso (Kd.pair (Kd.int .i64) Kd.string) (fun x : S24 => (x.f0, x.f1))
theorem k24_open {w : World} {x : S24} {cs : List Value} (h : k24.K w x cs) : cs = [.int .i64 x.f0, .string x.f1] := by
  obtain ⟨_, _, rfl, rfl, rfl⟩ := h
  exact rfl
theorem k24_mk (w : World) (x : S24)  : k24.K w x [.int .i64 x.f0, .string x.f1] := ⟨[.int .i64 x.f0], [.string x.f1], rfl, rfl, rfl⟩
structure S29 where
  f0 : Int
  f1 : Int
  f2 : ByteArray
  f3 : ByteArray
  f4 : ByteArray
  f5 : ByteArray
  f6 : Int
  f7 : ByteArray
  f8 : ByteArray
  f9 : ByteArray
  f10 : ByteArray
  f11 : Int
  f12 : ByteArray
  f13 : ByteArray
  f14 : S24
  f15 : (List S46)
  f16 : ByteArray
  f17 : ByteArray
  f18 : (List S48)
  f19 : (List S50)
def k29 : Kd S29 := Kd.iso (Kd.pair (Kd.int .i64) (Kd.pair (Kd.int .i64) (Kd.pair Kd.string (Kd.pair Kd.string (Kd.pair Kd.string (Kd.pair Kd.string (Kd.pair (Kd.int .u64) (Kd.pair Kd.string (Kd.pair Kd.string (Kd.pair Kd.string (Kd.pair Kd.string (Kd.pair (Kd.int .i64) (Kd.pair Kd.string (Kd.pair Kd.string (Kd.pair k24 (Kd.pair (Kd.slice 46 k46) (Kd.pair Kd.string (Kd.pair Kd.string (Kd.pair (Kd.slice 48 k48) (Kd.slice 50 k50)))))))))))))))))))) (fun x : S29 => (x.f0, x.f1, x.f2, x.f3, x.f4, x.f5, x.f6, x.f7, x.f8, x.f9, x.f10, x.f11, x.f12, x.f13, x.f14, x.f15, x.f16, x.f17, x.f18, x.f19))
theorem k29_open {w : World} {x : S29} {cs : List Value} (h : k29.K w x cs) : ∃ A16 c16 A19 c19 A20 c20, cs = [.int .i64 x.f0, .int .i64 x.f1, .string x.f2, .string x.f3, .string x.f4, .string x.f5, .int .u64 x.f6, .string x.f7, .string x.f8, .string x.f9, .string x.f10, .int .i64 x.f11, .string x.f12, .string x.f13, .int .i64 x.f14.f0, .string x.f14.f1, .slice A16 x.f15.length c16, .string x.f16, .string x.f17, .slice A19 x.f18.length c19, .slice A20 x.f19.length c20] ∧ x.f15.length ≤ c16 ∧ k46.C w A16 x.f15.length x.f15 ∧ x.f18.length ≤ c19 ∧ k48.C w A19 x.f18.length x.f18 ∧ x.f19.length ≤ c20 ∧ k50.C w A20 x.f19.length x.f19 := by
  obtain ⟨_, _, rfl, rfl, ⟨_, _, rfl, rfl, ⟨_, _, rfl, rfl, ⟨_, _, rfl, rfl, ⟨_, _, rfl, rfl, ⟨_, _, rfl, rfl, ⟨_, _, rfl, rfl, ⟨_, _, rfl, rfl, ⟨_, _, rfl, rfl, ⟨_, _, rfl, rfl, ⟨_, _, rfl, rfl, ⟨_, _, rfl, rfl, ⟨_, _, rfl, rfl, ⟨_, _, rfl, rfl, ⟨_, _, rfl, s14, ⟨_, _, rfl, ⟨A16, c16, rfl, l16, g16⟩, ⟨_, _, rfl, rfl, ⟨_, _, rfl, rfl, ⟨_, _, rfl, ⟨A19, c19, rfl, l19, g19⟩, ⟨A20, c20, rfl, l20, g20⟩⟩⟩⟩⟩⟩⟩⟩⟩⟩⟩⟩⟩⟩⟩⟩⟩⟩⟩⟩ := h
  obtain rfl := k24_open s14
  exact ⟨A16, c16, A19, c19, A20, c20, rfl, l16, g16, l19, g19, l20, g20⟩
theorem k29_mk (w : World) (x : S29) {A16 : Option Addr} {c16 : Nat} (l16 : x.f15.length ≤ c16) (g16 : k46.C w A16 x.f15.length x.f15) {A19 : Option Addr} {c19 : Nat} (l19 : x.f18.length ≤ c19) (g19 : k48.C w A19 x.f18.length x.f18) {A20 : Option Addr} {c20 : Nat} (l20 : x.f19.length ≤ c20) (g20 : k50.C w A20 x.f19.length x.f19) : k29.K w x [.int .i64 x.f0, .int .i64 x.f1, .string x.f2, .string x.f3, .string x.f4, .string x.f5, .int .u64 x.f6, .string x.f7, .string x.f8, .string x.f9, .string x.f10, .int .i64 x.f11, .string x.f12, .string x.f13, .int .i64 x.f14.f0, .string x.f14.f1, .slice A16 x.f15.length c16, .string x.f16, .string x.f17, .slice A19 x.f18.length c19, .slice A20 x.f19.length c20] := ⟨[.int .i64 x.f0], [.int .i64 x.f1, .string x.f2, .string x.f3, .string x.f4, .string x.f5, .int .u64 x.f6, .string x.f7, .string x.f8, .string x.f9, .string x.f10, .int .i64 x.f11, .string x.f12, .string x.f13, .int .i64 x.f14.f0, .string x.f14.f1, .slice A16 x.f15.length c16, .string x.f16, .string x.f17, .slice A19 x.f18.length c19, .slice A20 x.f19.length c20], rfl, rfl, ⟨[.int .i64 x.f1], [.string x.f2, .string x.f3, .string x.f4, .string x.f5, .int .u64 x.f6, .string x.f7, .string x.f8, .string x.f9, .string x.f10, .int .i64 x.f11, .string x.f12, .string x.f13, .int .i64 x.f14.f0, .string x.f14.f1, .slice A16 x.f15.length c16, .string x.f16, .string x.f17, .slice A19 x.f18.length c19, .slice A20 x.f19.length c20], rfl, rfl, ⟨[.string x.f2], [.string x.f3, .string x.f4, .string x.f5, .int .u64 x.f6, .string x.f7, .string x.f8, .string x.f9, .string x.f10, .int .i64 x.f11, .string x.f12, .string x.f13, .int .i64 x.f14.f0, .string x.f14.f1, .slice A16 x.f15.length c16, .string x.f16, .string x.f17, .slice A19 x.f18.length c19, .slice A20 x.f19.length c20], rfl, rfl, ⟨[.string x.f3], [.string x.f4, .string x.f5, .int .u64 x.f6, .string x.f7, .string x.f8, .string x.f9, .string x.f10, .int .i64 x.f11, .string x.f12, .string x.f13, .int .i64 x.f14.f0, .string x.f14.f1, .slice A16 x.f15.length c16, .string x.f16, .string x.f17, .slice A19 x.f18.length c19, .slice A20 x.f19.length c20], rfl, rfl, ⟨[.string x.f4], [.string x.f5, .int .u64 x.f6, .string x.f7, .string x.f8, .string x.f9, .string x.f10, .int .i64 x.f11, .string x.f12, .string x.f13, .int .i64 x.f14.f0, .string x.f14.f1, .slice A16 x.f15.length c16, .string x.f16, .string x.f17, .slice A19 x.f18.length c19, .slice A20 x.f19.length c20], rfl, rfl, ⟨[.string x.f5], [.int .u64 x.f6, .string x.f7, .string x.f8, .string x.f9, .string x.f10, .int .i64 x.f11, .string x.f12, .string x.f13, .int .i64 x.f14.f0, .string x.f14.f1, .slice A16 x.f15.length c16, .string x.f16, .string x.f17, .slice A19 x.f18.length c19, .slice A20 x.f19.length c20], rfl, rfl, ⟨[.int .u64 x.f6], [.string x.f7, .string x.f8, .string x.f9, .string x.f10, .int .i64 x.f11, .string x.f12, .string x.f13, .int .i64 x.f14.f0, .string x.f14.f1, .slice A16 x.f15.length c16, .string x.f16, .string x.f17, .slice A19 x.f18.length c19, .slice A20 x.f19.length c20], rfl, rfl, ⟨[.string x.f7], [.string x.f8, .string x.f9, .string x.f10, .int .i64 x.f11, .string x.f12, .string x.f13, .int .i64 x.f14.f0, .string x.f14.f1, .slice A16 x.f15.length c16, .string x.f16, .string x.f17, .slice A19 x.f18.length c19, .slice A20 x.f19.length c20], rfl, rfl, ⟨[.string x.f8], [.string x.f9, .string x.f10, .int .i64 x.f11, .string x.f12, .string x.f13, .int .i64 x.f14.f0, .string x.f14.f1, .slice A16 x.f15.length c16, .string x.f16, .string x.f17, .slice A19 x.f18.length c19, .slice A20 x.f19.length c20], rfl, rfl, ⟨[.string x.f9], [.string x.f10, .int .i64 x.f11, .string x.f12, .string x.f13, .int .i64 x.f14.f0, .string x.f14.f1, .slice A16 x.f15.length c16, .string x.f16, .string x.f17, .slice A19 x.f18.length c19, .slice A20 x.f19.length c20], rfl, rfl, ⟨[.string x.f10], [.int .i64 x.f11, .string x.f12, .string x.f13, .int .i64 x.f14.f0, .string x.f14.f1, .slice A16 x.f15.length c16, .string x.f16, .string x.f17, .slice A19 x.f18.length c19, .slice A20 x.f19.length c20], rfl, rfl, ⟨[.int .i64 x.f11], [.string x.f12, .string x.f13, .int .i64 x.f14.f0, .string x.f14.f1, .slice A16 x.f15.length c16, .string x.f16, .string x.f17, .slice A19 x.f18.length c19, .slice A20 x.f19.length c20], rfl, rfl, ⟨[.string x.f12], [.string x.f13, .int .i64 x.f14.f0, .string x.f14.f1, .slice A16 x.f15.length c16, .string x.f16, .string x.f17, .slice A19 x.f18.length c19, .slice A20 x.f19.length c20], rfl, rfl, ⟨[.string x.f13], [.int .i64 x.f14.f0, .string x.f14.f1, .slice A16 x.f15.length c16, .string x.f16, .string x.f17, .slice A19 x.f18.length c19, .slice A20 x.f19.length c20], rfl, rfl, ⟨[.int .i64 x.f14.f0, .string x.f14.f1], [.slice A16 x.f15.length c16, .string x.f16, .string x.f17, .slice A19 x.f18.length c19, .slice A20 x.f19.length c20], rfl, (k24_mk w x.f14 ), ⟨[.slice A16 x.f15.length c16], [.string x.f16, .string x.f17, .slice A19 x.f18.length c19, .slice A20 x.f19.length c20], rfl, ⟨A16, c16, rfl, l16, g16⟩, ⟨[.string x.f16], [.string x.f17, .slice A19 x.f18.length c19, .slice A20 x.f19.length c20], rfl, rfl, ⟨[.string x.f17], [.slice A19 x.f18.length c19, .slice A20 x.f19.length c20], rfl, rfl, ⟨[.slice A19 x.f18.length c19], [.slice A20 x.f19.length c20], rfl, ⟨A19, c19, rfl, l19, g19⟩, ⟨A20, c20, rfl, l20, g20⟩⟩⟩⟩⟩⟩⟩⟩⟩⟩⟩⟩⟩⟩⟩⟩⟩⟩⟩⟩
end Go.Proofs.YthapknnppabdaaaGreat.MQ
namespace Go.Proofs.YthapknnppabdaaaGreat.MQ
open Go.RowKit Go.Proofs.YthapknnppabdaaaGreatW.PrintWords Go.Proofs.YthapknnppabdaaaGreatW.PrintLast Go.Proofs.YthapknnppabdaaaGreatW.PrintMore
set_option linter.unusedVariables false
set_option linter.unusedSimpArgs false
theorem Drawn0.trans {w w1 w2 : World} (h : Drawn0 w w1) (g : Drawn0 w1 w2) : Drawn0 w w2 := by
  obtain ⟨m, rfl⟩ := g.out
  exact h.step m
theorem byte_at (s : ByteArray) (kk : Nat) : ∀ h : kk < s.size, ((s[kk]'h).toNat : Int) = bt s (kk : Int) := fun h => by
  have := bt_at s (kk : Int); simp only [Int.toNat_natCast] at this; exact this h
/-- The bytes of a text, as numbers. -/
def bs (s : ByteArray) : List Int := s.data.toList.map fun b => (b.toNat : Int)
theorem bs_len (s : ByteArray) : (bs s).length = s.size := by simp [bs]
theorem bs_get (s : ByteArray) (i : Nat) (h : i < s.size) : (bs s)[i]'(by rw [bs_len]; exact h) = bt s (i : Int) := by
  unfold bs bt
  simp only [Int.toNat_natCast]
  rw [dif_pos h, List.getElem_map]
  rfl
theorem bs_take (s : ByteArray) (i : Nat) (h : i < s.size) : (bs s).take (i + 1) = (bs s).take i ++ [bt s (i : Int)] := by
  rw [List.take_add_one, List.getElem?_eq_getElem (by rw [bs_len]; exact h), bs_get s i h]
  rfl
theorem bs_all (s : ByteArray) : (bs s).take s.size = bs s := List.take_of_length_le (by rw [bs_len]; exact Nat.le_refl _)
theorem bs_extract (s : ByteArray) (i j : Nat) : bs (s.extract i j) = ((bs s).take j).drop i := by
  unfold bs
  rw [ByteArray.data_extract, Array.toList_extract, List.extract, List.map_take, List.map_drop, List.drop_take]
theorem bs_append (s t : ByteArray) : bs (s ++ t) = bs s ++ bs t := by
  unfold bs
  rw [ByteArray.data_append, Array.toList_append, List.map_append]
def dig (c : Int) : Bool := decide (48 ≤ c) && decide (c ≤ 57)
def rightF (s : ByteArray) (low top : Int) : Bool := (bs s).all dig && decide (low ≤ (s.size : Int)) && decide ((s.size : Int) ≤ top)
theorem all_snoc {f : Int → Bool} {s : ByteArray} {i : Nat} (h : i < s.size) (h0 : ((bs s).take i).all f = true) (h1 : f (bt s (i : Int)) = true) : ((bs s).take (i + 1)).all f = true := by
  rw [bs_take s i h, List.all_append, h0, List.all_cons, h1]; rfl
theorem all_no {f : Int → Bool} {s : ByteArray} {i : Nat} (h : i < s.size) (h1 : f (bt s (i : Int)) = false) : (bs s).all f = false := by
  rw [List.all_eq_false]
  exact ⟨_, List.getElem_mem (by rw [bs_len]; exact h), by rw [bs_get s i h, h1]; decide⟩
set_option maxHeartbeats 4000000 in
theorem right_e (s : ByteArray) (low top : Int) (w : World) (hs : s.size ≤ 140737488355328) : Calls Tryz.prog 66 #[.string s, .int .i64 low, .int .i64 top] w fun e w' => e = .returned (.bool (rightF s low top)) ∧ Drawn0 w w' := by
  go_enter Tryz.func66, Tryz.ntmps66
  go_wp2
  go_loopg [7] s.size (fun gg s7 wr => ∃ kk : Nat, kk ≤ s.size ∧ s.size - kk ≤ gg ∧ s7 = .int .i64 kk ∧ Aside0 (Drawn0 w wr) ∧ Aside0 (((bs s).take kk).all dig = true))
  case atStart => exact ⟨0, Nat.zero_le _, by omega, rfl, ⟨Drawn0.refl w⟩, ⟨rfl⟩⟩
  case round =>
    obtain ⟨kk, hkk, hg, rfl, BW, HA⟩ := hrel
    by_cases hlt : kk < s.size
    · have hltz : (kk : Int) < (s.size : Int) := by omega
      have hx := byte_at s kk
      obtain ⟨c, hc⟩ : ∃ c, c = bt s (kk : Int) := ⟨_, rfl⟩
      rw [← hc] at hx
      have HC := Aside0.mk hc
      clear hc
      by_cases q1 : c < 48
      · have HF : Aside0 (rightF s low top = false) := ⟨by unfold rightF; rw [all_no hlt (by rw [← HC.out]; unfold dig; rw [decide_eq_false (by omega)]; rfl)]; rfl⟩
        go_wp2
        go_ret
        exact ⟨by rw [HF.out]; rfl, BW.out⟩
      · by_cases q2 : 57 < c
        · have HF : Aside0 (rightF s low top = false) := ⟨by unfold rightF; rw [all_no hlt (by rw [← HC.out]; unfold dig; rw [decide_eq_false (p := c ≤ 57) (by omega)]; simp)]; rfl⟩
          go_wp2
          go_ret
          exact ⟨by rw [HF.out]; rfl, BW.out⟩
        · have HN := Aside0.mk (all_snoc hlt HA.out (by rw [← HC.out]; unfold dig; rw [decide_eq_true (by omega), decide_eq_true (by omega)]; rfl))
          go_wp2
          go_roundg (s.size - (kk + 1))
          case measure => omega
          case rel => exact ⟨kk + 1, by omega, by omega, by go_num, BW, HN⟩
    · have hltz : ¬ (kk : Int) < (s.size : Int) := by omega
      have HB : Aside0 ((bs s).all dig = true) := ⟨by
        have e : kk = s.size := by omega
        rw [← bs_all, ← e]; exact HA.out⟩
      by_cases q1 : low ≤ (s.size : Int)
      · by_cases q2 : (s.size : Int) ≤ top
        · have HF : Aside0 (rightF s low top = true) := ⟨by unfold rightF; rw [HB.out, decide_eq_true q1, decide_eq_true q2]; rfl⟩
          go_wp2
          go_ret
          exact ⟨by rw [HF.out]; rfl, BW.out⟩
        · have HF : Aside0 (rightF s low top = false) := ⟨by unfold rightF; rw [decide_eq_false q2]; simp⟩
          go_wp2
          go_ret
          exact ⟨by rw [HF.out]; rfl, BW.out⟩
      · have HF : Aside0 (rightF s low top = false) := ⟨by unfold rightF; rw [decide_eq_false q1]; simp⟩
        go_wp2
        go_ret
        exact ⟨by rw [HF.out]; rfl, BW.out⟩
/-- The number that digits come to. -/
def valL (l : List Int) : Int := l.foldl (fun v c => v * 10 + (c - 48)) 0
def valF (s : ByteArray) : Int := valL (bs s)
theorem valL_snoc (l : List Int) (c : Int) : valL (l ++ [c]) = valL l * 10 + (c - 48) := by unfold valL; rw [List.foldl_append]; rfl
theorem val_from (l : List Int) : ∀ v : Int, 0 ≤ v → l.all dig = true → 0 ≤ l.foldl (fun v c => v * 10 + (c - 48)) v ∧ l.foldl (fun v c => v * 10 + (c - 48)) v < (v + 1) * 10 ^ l.length := by
  induction l with
  | nil => intro v hv _; exact ⟨hv, by show v < (v + 1) * 1; omega⟩
  | cons c l ih =>
    intro v hv h
    rw [List.all_cons, Bool.and_eq_true] at h
    have hc : 48 ≤ c ∧ c ≤ 57 := by simpa [dig] using h.1
    obtain ⟨a, b⟩ := ih (v * 10 + (c - 48)) (by omega) h.2
    refine ⟨a, Int.lt_of_lt_of_le b ?_⟩
    rw [List.length_cons, Int.pow_succ, Int.mul_comm (10 ^ l.length) 10, ← Int.mul_assoc]
    exact Int.mul_le_mul_of_nonneg_right (by omega) (Int.le_of_lt (Int.pow_pos (by decide)))
theorem valL_bound (l : List Int) (h : l.all dig = true) : 0 ≤ valL l ∧ valL l < 10 ^ l.length := by
  have := val_from l 0 (Int.le_refl _) h
  rw [Int.zero_add, Int.one_mul] at this
  exact this
def numF (s : ByteArray) : Int := if rightF s 1 18 = true then valF s else 0
def numE (s : ByteArray) : Int := if rightF s 1 18 = true then 0 else 5
theorem right_iff {s : ByteArray} {low top : Int} : rightF s low top = true ↔ (bs s).all dig = true ∧ low ≤ (s.size : Int) ∧ (s.size : Int) ≤ top := by
  unfold rightF
  rw [Bool.and_eq_true, Bool.and_eq_true, decide_eq_true_eq, decide_eq_true_eq, and_assoc]
theorem valL_take {l : List Int} (h : l.all dig = true) (k : Nat) (hk : k ≤ 18) : 0 ≤ valL (l.take k) ∧ valL (l.take k) < 1000000000000000000 := by
  have ha : (l.take k).all dig = true := by
    rw [List.all_eq_true] at h ⊢
    exact fun x hx => h x (List.mem_of_mem_take hx)
  obtain ⟨a, b⟩ := valL_bound _ ha
  have : (10 : Int) ^ (l.take k).length ≤ 10 ^ 18 := by
    have : (l.take k).length ≤ 18 := by rw [List.length_take]; omega
    exact_mod_cast Nat.pow_le_pow_right (by decide) this
  omega
set_option maxHeartbeats 4000000 in
theorem number_e (s : ByteArray) (w : World) (hs : s.size ≤ 140737488355328) : Calls Tryz.prog 104 #[.string s] w fun e w' => e = .returned (.tuple #[.int .u64 (numF s), .int .i64 (numE s)]) ∧ Drawn0 w w' := by
  go_enter Tryz.func104, Tryz.ntmps104
  go_wp2_with fail
  refine (right_e s 1 18 w hs).mono ?_
  rintro e w1 ⟨rfl, hB⟩
  have B1 := Aside0.mk hB
  clear hB
  obtain ⟨b, hb⟩ : ∃ b, b = rightF s 1 18 := ⟨_, rfl⟩
  rw [← hb]
  have HB := Aside0.mk hb
  clear hb
  cases b with
  | false =>
    go_wp2
    go_ret2
    exact ⟨by unfold numF numE; rw [if_neg (by rw [← HB.out]; decide), if_neg (by rw [← HB.out]; decide)]; rfl, B1.out⟩
  | true =>
    have HS := Aside0.mk (right_iff.1 HB.out.symm)
    go_wp2
    go_loopg [4, 5] s.size (fun gg s4 s5 wr => ∃ (kk : Nat) (n : Int), kk ≤ s.size ∧ s.size - kk ≤ gg ∧ s5 = .int .i64 kk ∧ s4 = .int .u64 n ∧ Aside0 (Drawn0 w wr) ∧ Aside0 (n = valL ((bs s).take kk)))
    case atStart => exact ⟨0, 0, Nat.zero_le _, by omega, rfl, rfl, B1, ⟨rfl⟩⟩
    case round =>
      obtain ⟨kk, n, hkk, hg, rfl, rfl, BW, HN⟩ := hrel
      by_cases hlt : kk < s.size
      · have hltz : (kk : Int) < (s.size : Int) := by omega
        have hx := byte_at s kk
        have h18 : Aside0 (kk + 1 ≤ 18) := ⟨by have := HS.out.2.2; omega⟩
        have HV := Aside0.mk (And.intro (valL_take HS.out.1 kk (by have := h18.out; omega)) (valL_take HS.out.1 (kk + 1) h18.out))
        have HD : Aside0 (48 ≤ bt s (kk : Int) ∧ bt s (kk : Int) ≤ 57) := ⟨by
          have h1 := HS.out.1
          rw [List.all_eq_true] at h1
          have := h1 _ (List.getElem_mem (show kk < (bs s).length by rw [bs_len]; exact hlt))
          rw [bs_get s kk hlt] at this
          simpa [dig] using this⟩
        have HT := Aside0.mk (bs_take s kk hlt)
        generalize bt s (kk : Int) = c at hx HD HT
        go_wp2
        go_roundg (s.size - (kk + 1))
        case measure => omega
        case rel =>
          refine ⟨kk + 1, _, by omega, by omega, by go_num, rfl, BW, ⟨?_⟩⟩
          have h1 := HV.out.1; have h2 := HV.out.2; have h3 := HD.out
          rw [HT.out, valL_snoc] at h2
          rw [HT.out, valL_snoc]
          rw [HN.out]
          have e1 : ∀ x : Int, 0 ≤ x → x < 18446744073709551616 → IntKind.u64.wrap x = x := fun x a b => by
            have e : (2 : Int) ^ IntKind.u64.bits = 18446744073709551616 := by decide
            simp only [IntKind.wrap, IntKind.u64]
            exact Int.emod_eq_of_lt a b
          have e2 : (c - 48) % 256 = c - 48 := Int.emod_eq_of_lt (by omega) (by omega)
          rw [e1 (valL ((bs s).take kk) * 10) (by omega) (by omega), e2, e1 _ (by omega) (by omega)]
      · have hltz : ¬ (kk : Int) < (s.size : Int) := by omega
        have HE : Aside0 (n = numF s ∧ numE s = 0) := ⟨by
          have e : kk = s.size := by omega
          unfold numF numE valF
          rw [if_pos HB.out.symm, if_pos HB.out.symm, HN.out, e, bs_all]; exact ⟨rfl, rfl⟩⟩
        go_wp2
        go_ret2
        exact ⟨by rw [HE.out.1, HE.out.2]; rfl, BW.out⟩
def partF (s : ByteArray) (i j : Int) : Int := numF (s.extract i.toNat j.toNat)
theorem numF_bound (s : ByteArray) : 0 ≤ numF s ∧ numF s < 1000000000000000000 := by
  unfold numF
  by_cases h : rightF s 1 18 = true
  · rw [if_pos h]
    have h1 := right_iff.1 h
    have := valL_take h1.1 18 (Nat.le_refl _)
    rw [List.take_of_length_le (by rw [bs_len]; omega)] at this
    exact this
  · rw [if_neg h]; decide
set_option maxHeartbeats 4000000 in
theorem part_e (s : ByteArray) (i j : Int) (w : World) (hs : s.size ≤ 140737488355328) (h0 : 0 ≤ i) (h1 : i ≤ j) (h2 : j ≤ (s.size : Int)) : Calls Tryz.prog 67 #[.string s, .int .i64 i, .int .i64 j] w fun e w' => e = .returned (.int .i64 (partF s i j)) ∧ Drawn0 w w' := by
  have hn : (s.extract i.toNat j.toNat).size ≤ 140737488355328 := by rw [ByteArray.size_extract]; omega
  have HN := Aside0.mk (number_e (s.extract i.toNat j.toNat) w hn)
  have HB := Aside0.mk (numF_bound (s.extract i.toNat j.toNat))
  clear hn
  go_enter Tryz.func67, Tryz.ntmps67
  go_wp2_with fail
  refine HN.out.mono ?_
  rintro e w1 ⟨rfl, hB⟩
  have BB := Aside0.mk hB
  clear hB HN
  have hw : wrap64 (numF (s.extract i.toNat j.toNat)) = numF (s.extract i.toNat j.toNat) := by have := HB.out; unfold wrap64; omega
  go_wp2_with fail
  go_ret
  exact ⟨by unfold partF; first | rfl | (rw [hw]; rfl), BB.out⟩
def daysF (y m : Int) : Int := if m = 4 ∨ m = 6 ∨ m = 9 ∨ m = 11 then 30 else if m = 2 then (if y.tmod 4 = 0 then (if y.tmod 100 = 0 then (if y.tmod 400 = 0 then 29 else 28) else 29) else 28) else 31
set_option maxHeartbeats 4000000 in
theorem days_e (y m : Int) (w : World) : Calls Tryz.prog 68 #[.int .i64 y, .int .i64 m] w fun e w' => e = .returned (.int .i64 (daysF y m)) ∧ Drawn0 w w' := by
  have HB := Aside0.mk (Drawn0.refl w)
  by_cases h4 : m = 4
  · subst h4; go_enter Tryz.func68, Tryz.ntmps68; go_wp2; go_ret; exact ⟨rfl, HB.out⟩
  by_cases h6 : m = 6
  · subst h6; go_enter Tryz.func68, Tryz.ntmps68; go_wp2; go_ret; exact ⟨rfl, HB.out⟩
  by_cases h9 : m = 9
  · subst h9; go_enter Tryz.func68, Tryz.ntmps68; go_wp2; go_ret; exact ⟨rfl, HB.out⟩
  by_cases h11 : m = 11
  · subst h11; go_enter Tryz.func68, Tryz.ntmps68; go_wp2; go_ret; exact ⟨rfl, HB.out⟩
  by_cases h2 : m = 2
  · subst h2
    by_cases r4 : y.tmod 4 = 0
    · by_cases r1 : y.tmod 100 = 0
      · by_cases r3 : y.tmod 400 = 0
        · have HF : Aside0 (daysF y 2 = 29) := ⟨by simp [daysF, r4, r1, r3]⟩
          go_enter Tryz.func68, Tryz.ntmps68; go_wp2; go_ret; exact ⟨by rw [HF.out]; rfl, HB.out⟩
        · have HF : Aside0 (daysF y 2 = 28) := ⟨by simp [daysF, r4, r1, r3]⟩
          go_enter Tryz.func68, Tryz.ntmps68; go_wp2; go_ret; exact ⟨by rw [HF.out]; rfl, HB.out⟩
      · have HF : Aside0 (daysF y 2 = 29) := ⟨by simp [daysF, r4, r1]⟩
        go_enter Tryz.func68, Tryz.ntmps68; go_wp2; go_ret; exact ⟨by rw [HF.out]; rfl, HB.out⟩
    · have HF : Aside0 (daysF y 2 = 28) := ⟨by simp [daysF, r4]⟩
      go_enter Tryz.func68, Tryz.ntmps68; go_wp2; go_ret; exact ⟨by rw [HF.out]; rfl, HB.out⟩
  · have b4 : (m == 4) = false := beq_eq_false_iff_ne.mpr h4
    have b6 : (m == 6) = false := beq_eq_false_iff_ne.mpr h6
    have b9 : (m == 9) = false := beq_eq_false_iff_ne.mpr h9
    have b11 : (m == 11) = false := beq_eq_false_iff_ne.mpr h11
    have b2 : (m == 2) = false := beq_eq_false_iff_ne.mpr h2
    have HF : Aside0 (daysF y m = 31) := ⟨by simp [daysF, h4, h6, h9, h11, h2]⟩
    go_enter Tryz.func68, Tryz.ntmps68; go_wp2; go_ret; exact ⟨by rw [HF.out]; rfl, HB.out⟩
def timeF (s : ByteArray) : Bool := rightF s 14 14 && decide (0 < partF s 0 4) && decide (1 ≤ partF s 4 6) && decide (partF s 4 6 ≤ 12) && decide (1 ≤ partF s 6 8) && decide (partF s 6 8 ≤ daysF (partF s 0 4) (partF s 4 6)) && decide (partF s 8 10 < 24) && decide (partF s 10 12 < 60) && decide (partF s 12 14 < 60)
theorem timeF_right {s : ByteArray} (h : timeF s = true) : rightF s 14 14 = true := by
  unfold timeF at h
  simp only [Bool.and_eq_true] at h
  exact h.1.1.1.1.1.1.1.1
set_option maxHeartbeats 4000000 in
theorem time_e (s : ByteArray) (w : World) (hs : s.size ≤ 140737488355328) : Calls Tryz.prog 41 #[.string s] w fun e w' => e = .returned (.bool (timeF s)) ∧ Drawn0 w w' := by
  go_enter Tryz.func41, Tryz.ntmps41
  go_wp2_with fail
  refine (right_e s 14 14 w hs).mono ?_
  rintro e w1 ⟨rfl, BB⟩
  by_cases hr : rightF s 14 14 = true
  rotate_left
  · have hr' : rightF s 14 14 = false := by simpa using hr
    have HF : Aside0 (timeF s = false) := ⟨by simp [timeF, hr']⟩
    clear hr
    rw [hr']
    go_wp2_with fail
    go_ret
    exact ⟨by rw [HF.out]; rfl, BB⟩
  have h14 : 14 ≤ (s.size : Int) := (right_iff.1 hr).2.1
  rw [hr]
  have HR := Aside0.mk hr
  clear hr
  go_wp2_with fail
  refine (part_e s 0 4 _ hs (by omega) (by omega) (by omega)).mono ?_
  rintro e w2 ⟨rfl, hB⟩
  replace BB := Drawn0.trans BB hB; clear hB
  obtain ⟨y, Hy⟩ : ∃ v, Aside0 (v = partF s 0 4) := ⟨_, ⟨rfl⟩⟩
  rw [← Hy.out]
  go_wp2_with fail
  refine (part_e s 4 6 _ hs (by omega) (by omega) (by omega)).mono ?_
  rintro e w3 ⟨rfl, hB⟩
  replace BB := Drawn0.trans BB hB; clear hB
  obtain ⟨m, Hm⟩ : ∃ v, Aside0 (v = partF s 4 6) := ⟨_, ⟨rfl⟩⟩
  rw [← Hm.out]
  go_wp2_with fail
  refine (part_e s 6 8 _ hs (by omega) (by omega) (by omega)).mono ?_
  rintro e w4 ⟨rfl, hB⟩
  replace BB := Drawn0.trans BB hB; clear hB
  obtain ⟨d, Hd⟩ : ∃ v, Aside0 (v = partF s 6 8) := ⟨_, ⟨rfl⟩⟩
  rw [← Hd.out]
  by_cases q0 : 0 < y
  rotate_left
  · have HF : Aside0 (timeF s = false) := ⟨by simp only [timeF, HR.out, ← Hy.out]; rw [decide_eq_false (p := 0 < y) q0]; simp⟩
    go_wp2_with fail
    go_ret
    exact ⟨by rw [HF.out]; rfl, BB⟩
  by_cases q1 : 1 ≤ m
  rotate_left
  · have HF : Aside0 (timeF s = false) := ⟨by simp only [timeF, HR.out, ← Hm.out]; rw [decide_eq_false (p := 1 ≤ m) q1]; simp⟩
    go_wp2_with fail
    go_ret
    exact ⟨by rw [HF.out]; rfl, BB⟩
  by_cases q2 : m ≤ 12
  rotate_left
  · have HF : Aside0 (timeF s = false) := ⟨by simp only [timeF, HR.out, ← Hm.out]; rw [decide_eq_false (p := m ≤ 12) q2]; simp⟩
    go_wp2_with fail
    go_ret
    exact ⟨by rw [HF.out]; rfl, BB⟩
  by_cases q3 : 1 ≤ d
  rotate_left
  · have HF : Aside0 (timeF s = false) := ⟨by simp only [timeF, HR.out, ← Hd.out]; rw [decide_eq_false (p := 1 ≤ d) q3]; simp⟩
    go_wp2_with fail
    go_ret
    exact ⟨by rw [HF.out]; rfl, BB⟩
  go_wp2_with fail
  refine (days_e y m _).mono ?_
  rintro e w6 ⟨rfl, hB⟩
  replace BB := Drawn0.trans BB hB; clear hB
  obtain ⟨z, Hz⟩ : ∃ v, Aside0 (v = daysF y m) := ⟨_, ⟨rfl⟩⟩
  rw [← Hz.out]
  by_cases q4 : d ≤ z
  rotate_left
  · have HF : Aside0 (timeF s = false) := ⟨by simp only [timeF, HR.out, ← Hy.out, ← Hm.out, ← Hd.out, ← Hz.out]; rw [decide_eq_false (p := d ≤ z) q4]; simp⟩
    go_wp2_with fail
    go_ret
    exact ⟨by rw [HF.out]; rfl, BB⟩
  go_wp2_with fail
  refine (part_e s 8 10 _ hs (by omega) (by omega) (by omega)).mono ?_
  rintro e w7 ⟨rfl, hB⟩
  replace BB := Drawn0.trans BB hB; clear hB
  obtain ⟨z0, Hz0⟩ : ∃ v, Aside0 (v = partF s 8 10) := ⟨_, ⟨rfl⟩⟩
  rw [← Hz0.out]
  by_cases p0 : z0 < 24
  rotate_left
  · have HF : Aside0 (timeF s = false) := ⟨by simp only [timeF, HR.out, ← Hz0.out]; rw [decide_eq_false (p := z0 < 24) p0]; simp⟩
    go_wp2_with fail
    go_ret
    exact ⟨by rw [HF.out]; rfl, BB⟩
  go_wp2_with fail
  refine (part_e s 10 12 _ hs (by omega) (by omega) (by omega)).mono ?_
  rintro e w8 ⟨rfl, hB⟩
  replace BB := Drawn0.trans BB hB; clear hB
  obtain ⟨z1, Hz1⟩ : ∃ v, Aside0 (v = partF s 10 12) := ⟨_, ⟨rfl⟩⟩
  rw [← Hz1.out]
  by_cases p1 : z1 < 60
  rotate_left
  · have HF : Aside0 (timeF s = false) := ⟨by simp only [timeF, HR.out, ← Hz1.out]; rw [decide_eq_false (p := z1 < 60) p1]; simp⟩
    go_wp2_with fail
    go_ret
    exact ⟨by rw [HF.out]; rfl, BB⟩
  go_wp2_with fail
  refine (part_e s 12 14 _ hs (by omega) (by omega) (by omega)).mono ?_
  rintro e w9 ⟨rfl, hB⟩
  replace BB := Drawn0.trans BB hB; clear hB
  obtain ⟨z2, Hz2⟩ : ∃ v, Aside0 (v = partF s 12 14) := ⟨_, ⟨rfl⟩⟩
  rw [← Hz2.out]
  have HF : Aside0 (timeF s = decide (z2 < 60)) := ⟨by simp only [timeF, HR.out, ← Hy.out, ← Hm.out, ← Hd.out, ← Hz.out, ← Hz0.out, ← Hz1.out, ← Hz2.out]; simp [q0, q1, q2, q3, q4, p0, p1]⟩
  go_wp2_with fail
  go_ret
  exact ⟨by rw [HF.out]; rfl, BB⟩
end Go.Proofs.YthapknnppabdaaaGreat.MQ
