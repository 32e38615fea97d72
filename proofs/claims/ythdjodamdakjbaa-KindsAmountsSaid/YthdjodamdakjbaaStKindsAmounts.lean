-- laid by wip/tools/mixprint.py over the kit's print (functions of function values by hand)
import Derived.Test.YthdjodamdakjbaaHAmtX
import Derived.Test.YthdjodamdakjbaaHOpens
namespace Go.Proofs.Ythdjodamdakjbaa.MK
open Go.RowKit Go.Proofs.YthdjodamdakjbaaW.PrintWords Go.Proofs.YthdjodamdakjbaaW.PrintLast Go.Proofs.Ythdjodamdakjbaa.Opens
set_option maxRecDepth 100000

def R24 (x : S24) : Prop := (fun x : Int => (Lit.int .i64 x).wf = true) x.f0 ∧ (fun s : ByteArray => s.size ≤ 140737488351232) x.f1
theorem opens24 : Opens Try.prog 24 k24 R24 :=
  Opens.struct Try.underlying24 rfl (by kernel_rfl) (OpensF.cons rfl (by kernel_rfl) rfl (Opens.int Try.underlying3) (OpensF.last rfl (by kernel_rfl) (Opens.string Try.underlying9))) (fun x : S24 => (x.f0, x.f1)) (fun y => ⟨y.1, y.2⟩) (fun _ => rfl)
def R51 (x : S51) : Prop := (fun x : Int => (Lit.int .i64 x).wf = true) x.f0 ∧ (fun xs : List Int => xs.length ≤ maxLen ∧ xs.length * 1 ≤ 140737488351232 ∧ ∀ x ∈ xs, (fun x : Int => (Lit.int .u8 x).wf = true) x) x.f1
theorem opens51 : Opens Try.prog 51 k51 R51 :=
  Opens.struct Try.underlying51 rfl (by kernel_rfl) (OpensF.cons rfl (by kernel_rfl) rfl (Opens.int Try.underlying3) (OpensF.last rfl (by kernel_rfl) (Opens.slice (B := 1) Try.underlying49 (by kernel_rfl) (by kernel_rfl) (Opens.int Try.underlying5)))) (fun x : S51 => (x.f0, x.f1)) (fun y => ⟨y.1, y.2⟩) (fun _ => rfl)
def R53 (x : S53) : Prop := (fun s : ByteArray => s.size ≤ 140737488351232) x.f0 ∧ (fun s : ByteArray => s.size ≤ 140737488351232) x.f1
theorem opens53 : Opens Try.prog 53 k53 R53 :=
  Opens.struct Try.underlying53 rfl (by kernel_rfl) (OpensF.cons rfl (by kernel_rfl) rfl (Opens.string Try.underlying9) (OpensF.last rfl (by kernel_rfl) (Opens.string Try.underlying9))) (fun x : S53 => (x.f0, x.f1)) (fun y => ⟨y.1, y.2⟩) (fun _ => rfl)
def R55 (x : S55) : Prop := (fun x : Int => (Lit.int .i64 x).wf = true) x.f0 ∧ (fun xs : List Int => xs.length ≤ maxLen ∧ xs.length * 1 ≤ 140737488351232 ∧ ∀ x ∈ xs, (fun x : Int => (Lit.int .u8 x).wf = true) x) x.f1
theorem opens55 : Opens Try.prog 55 k55 R55 :=
  Opens.struct Try.underlying55 rfl (by kernel_rfl) (OpensF.cons rfl (by kernel_rfl) rfl (Opens.int Try.underlying3) (OpensF.last rfl (by kernel_rfl) (Opens.slice (B := 1) Try.underlying49 (by kernel_rfl) (by kernel_rfl) (Opens.int Try.underlying5)))) (fun x : S55 => (x.f0, x.f1)) (fun y => ⟨y.1, y.2⟩) (fun _ => rfl)
def R29 (x : S29) : Prop := (fun x : Int => (Lit.int .i64 x).wf = true) x.f0 ∧ (fun x : Int => (Lit.int .i64 x).wf = true) x.f1 ∧ (fun s : ByteArray => s.size ≤ 140737488351232) x.f2 ∧ (fun s : ByteArray => s.size ≤ 140737488351232) x.f3 ∧ (fun s : ByteArray => s.size ≤ 140737488351232) x.f4 ∧ (fun s : ByteArray => s.size ≤ 140737488351232) x.f5 ∧ (fun x : Int => (Lit.int .u64 x).wf = true) x.f6 ∧ (fun s : ByteArray => s.size ≤ 140737488351232) x.f7 ∧ (fun s : ByteArray => s.size ≤ 140737488351232) x.f8 ∧ (fun s : ByteArray => s.size ≤ 140737488351232) x.f9 ∧ (fun s : ByteArray => s.size ≤ 140737488351232) x.f10 ∧ (fun x : Int => (Lit.int .i64 x).wf = true) x.f11 ∧ (fun s : ByteArray => s.size ≤ 140737488351232) x.f12 ∧ (fun s : ByteArray => s.size ≤ 140737488351232) x.f13 ∧ R24 x.f14 ∧ (fun xs : List (S51) => xs.length ≤ maxLen ∧ xs.length * 32 ≤ 140737488351232 ∧ ∀ x ∈ xs, R51 x) x.f15 ∧ (fun s : ByteArray => s.size ≤ 140737488351232) x.f16 ∧ (fun s : ByteArray => s.size ≤ 140737488351232) x.f17 ∧ (fun xs : List (S53) => xs.length ≤ maxLen ∧ xs.length * 32 ≤ 140737488351232 ∧ ∀ x ∈ xs, R53 x) x.f18 ∧ (fun xs : List (S55) => xs.length ≤ maxLen ∧ xs.length * 32 ≤ 140737488351232 ∧ ∀ x ∈ xs, R55 x) x.f19
theorem opens29 : Opens Try.prog 29 k29 R29 :=
  Opens.struct Try.underlying29 rfl (by kernel_rfl) (OpensF.cons rfl (by kernel_rfl) rfl (Opens.int Try.underlying3) (OpensF.cons rfl (by kernel_rfl) rfl (Opens.int Try.underlying3) (OpensF.cons rfl (by kernel_rfl) rfl (Opens.string Try.underlying9) (OpensF.cons rfl (by kernel_rfl) rfl (Opens.string Try.underlying9) (OpensF.cons rfl (by kernel_rfl) rfl (Opens.string Try.underlying9) (OpensF.cons rfl (by kernel_rfl) rfl (Opens.string Try.underlying9) (OpensF.cons rfl (by kernel_rfl) rfl (Opens.int Try.underlying22) (OpensF.cons rfl (by kernel_rfl) rfl (Opens.string Try.underlying9) (OpensF.cons rfl (by kernel_rfl) rfl (Opens.string Try.underlying9) (OpensF.cons rfl (by kernel_rfl) rfl (Opens.string Try.underlying9) (OpensF.cons rfl (by kernel_rfl) rfl (Opens.string Try.underlying9) (OpensF.cons rfl (by kernel_rfl) rfl (Opens.int Try.underlying3) (OpensF.cons rfl (by kernel_rfl) rfl (Opens.string Try.underlying9) (OpensF.cons rfl (by kernel_rfl) rfl (Opens.string Try.underlying9) (OpensF.cons rfl (by kernel_rfl) rfl opens24 (OpensF.cons rfl (by kernel_rfl) rfl (Opens.slice (B := 32) Try.underlying25 (by kernel_rfl) (by kernel_rfl) opens51) (OpensF.cons rfl (by kernel_rfl) rfl (Opens.string Try.underlying9) (OpensF.cons rfl (by kernel_rfl) rfl (Opens.string Try.underlying9) (OpensF.cons rfl (by kernel_rfl) rfl (Opens.slice (B := 32) Try.underlying26 (by kernel_rfl) (by kernel_rfl) opens53) (OpensF.last rfl (by kernel_rfl) (Opens.slice (B := 32) Try.underlying27 (by kernel_rfl) (by kernel_rfl) opens55))))))))))))))))))))) (fun x : S29 => (x.f0, x.f1, x.f2, x.f3, x.f4, x.f5, x.f6, x.f7, x.f8, x.f9, x.f10, x.f11, x.f12, x.f13, x.f14, x.f15, x.f16, x.f17, x.f18, x.f19)) (fun y => ⟨y.1, y.2.1, y.2.2.1, y.2.2.2.1, y.2.2.2.2.1, y.2.2.2.2.2.1, y.2.2.2.2.2.2.1, y.2.2.2.2.2.2.2.1, y.2.2.2.2.2.2.2.2.1, y.2.2.2.2.2.2.2.2.2.1, y.2.2.2.2.2.2.2.2.2.2.1, y.2.2.2.2.2.2.2.2.2.2.2.1, y.2.2.2.2.2.2.2.2.2.2.2.2.1, y.2.2.2.2.2.2.2.2.2.2.2.2.2.1, y.2.2.2.2.2.2.2.2.2.2.2.2.2.2.1, y.2.2.2.2.2.2.2.2.2.2.2.2.2.2.2.1, y.2.2.2.2.2.2.2.2.2.2.2.2.2.2.2.2.1, y.2.2.2.2.2.2.2.2.2.2.2.2.2.2.2.2.2.1, y.2.2.2.2.2.2.2.2.2.2.2.2.2.2.2.2.2.2.1, y.2.2.2.2.2.2.2.2.2.2.2.2.2.2.2.2.2.2.2⟩) (fun _ => rfl)
def comptoirlaw11_KindsAmounts.A0 (x : S29) : Prop := R29 x
theorem comptoirlaw11_KindsAmounts.opens0 : Opens Try.prog 29 k29 comptoirlaw11_KindsAmounts.A0 := opens29
theorem small29_of {x : S29} (h : comptoirlaw11_KindsAmounts.A0 x) : Small29 x := by
  obtain ⟨_, _, _, _, _, _, _, _, _, _, _, _, _, _, _, h15, _, _, h18, h19⟩ := (h : R29 x)
  have q15 : x.f15.length * 32 ≤ 140737488351232 := h15.2.1
  have q18 : x.f18.length * 32 ≤ 140737488351232 := h18.2.1
  have q19 : x.f19.length * 32 ≤ 140737488351232 := h19.2.1
  exact ⟨by omega, by omega, by omega⟩
theorem in29_of {x : S29} (h : comptoirlaw11_KindsAmounts.A0 x) : MsgIn x := by
  obtain ⟨_, _, h2, h3, h4, h5, _, h7, h8, h9, h10, _, h12, h13, h14, h15, h16, h17, h18, h19⟩ := (h : R29 x)
  have q15 : x.f15.length * 32 ≤ 140737488351232 := h15.2.1
  have q18 : x.f18.length * 32 ≤ 140737488351232 := h18.2.1
  have q19 : x.f19.length * 32 ≤ 140737488351232 := h19.2.1
  have d15 : ∀ t ∈ x.f15, R51 t := h15.2.2
  have d18 : ∀ t ∈ x.f18, R53 t := h18.2.2
  have d19 : ∀ t ∈ x.f19, R55 t := h19.2.2
  have s2 : x.f2.size ≤ 140737488351232 := h2
  have s3 : x.f3.size ≤ 140737488351232 := h3
  have s4 : x.f4.size ≤ 140737488351232 := h4
  have s5 : x.f5.size ≤ 140737488351232 := h5
  have s7 : x.f7.size ≤ 140737488351232 := h7
  have s8 : x.f8.size ≤ 140737488351232 := h8
  have s9 : x.f9.size ≤ 140737488351232 := h9
  have s10 : x.f10.size ≤ 140737488351232 := h10
  have s12 : x.f12.size ≤ 140737488351232 := h12
  have s13 : x.f13.size ≤ 140737488351232 := h13
  have s14 : x.f14.f1.size ≤ 140737488351232 := h14.2
  have s16 : x.f16.size ≤ 140737488351232 := h16
  have s17 : x.f17.size ≤ 140737488351232 := h17
  refine ⟨by omega, by omega, by omega, by omega, by omega, by omega, by omega, by omega, by omega, by omega, by omega, by omega, by omega, by omega, fun t ht => ?_, by omega, fun t ht => ?_, by omega, fun t ht => ?_⟩
  · have q : t.f1.length * 1 ≤ 140737488351232 := (d15 t ht).2.2.1
    omega
  · have q0 : t.f0.size ≤ 140737488351232 := (d18 t ht).1
    have q1 : t.f1.size ≤ 140737488351232 := (d18 t ht).2
    omega
  · have q : t.f1.length * 1 ≤ 140737488351232 := (d19 t ht).2.2.1
    omega
end Go.Proofs.Ythdjodamdakjbaa.MK
