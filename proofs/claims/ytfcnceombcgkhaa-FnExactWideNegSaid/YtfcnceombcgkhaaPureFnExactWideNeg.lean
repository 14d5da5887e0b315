/- Proved: for every wide number the program's WideNeg gives the reference's negation. No other condition. -/
import Derived.Test.YtfcnceombcgkhaaSayFnExactWideNeg
import Derived.Test.YtfcnceombcgkhaaBase
namespace Go.Proofs.Ytfcnceombcgkhaa.Pure
open Go.RowKit Go.Proofs.Ytfcnceombcgkhaa.QFnExactWideNeg Go.Proofs.YtfcnceombcgkhaaW.PrintWords Go.Proofs.YtfcnceombcgkhaaW.PrintLast Go.Proofs.YtfcnceombcgkhaaW.PrintMore
open Go.Proofs.Ytfcnceombcgkhaa.Base
set_option linter.unusedSimpArgs false
set_option linter.unusedVariables false

/-- The program's sum is the reference's. -/
theorem add_same (a b c d : Int) (hb : 0 ≤ b ∧ b ≤ 18446744073709551615) (hd : 0 ≤ d ∧ d ≤ 18446744073709551615) : impl_WideAdd.f a b c d = spec_WideAdd.f a b c d := by
  unfold impl_WideAdd.f spec_WideAdd.f
  rw [if_pos ⟨hb.1, hb.2, hd.1, hd.2⟩]
  simp only [wu64]
  by_cases c1 : (b + d) % 18446744073709551616 < b
  · rw [if_pos c1]
    have e : (b + d) / 18446744073709551616 = 1 := by omega
    rw [e]
    congr 2
    unfold wrap64
    omega
  · rw [if_neg c1]
    have e : (b + d) / 18446744073709551616 = 0 := by omega
    rw [e]
    congr 2
    unfold wrap64
    omega
theorem spec_add_some (a b c d : Int) : ∃ r, spec_WideAdd.f a b c d = some r := by
  unfold spec_WideAdd.f
  split <;> exact ⟨_, rfl⟩
theorem not_i64 (x : Int) (h : -9223372036854775808 ≤ x ∧ x ≤ 9223372036854775807) : Go.bits .xor .i64 (-1) x = -1 - x := by
  show IntKind.i64.wrap ((BitVec.ofInt 64 (-1) ^^^ BitVec.ofInt 64 x).toNat : Int) = _
  have h1 : BitVec.ofInt 64 (-1) = BitVec.allOnes 64 := by decide
  rw [h1, BitVec.allOnes_xor, BitVec.toNat_not, BitVec.toNat_ofInt]
  have e : ((2 ^ 64 - 1 - (x % ((2 ^ 64 : Nat) : Int)).toNat : Nat) : Int) = 18446744073709551615 - x % 18446744073709551616 := by
    have p : ((2 ^ 64 : Nat) : Int) = 18446744073709551616 := by decide +kernel
    have q : (2 ^ 64 : Nat) = 18446744073709551616 := by decide +kernel
    rw [p, q]
    omega
  rw [e]
  simp [IntKind.wrap, IntKind.bits, IntKind.signed]
  omega
theorem not_u64 (x : Int) (h : 0 ≤ x ∧ x ≤ 18446744073709551615) : Go.bits .xor .u64 18446744073709551615 x = 18446744073709551615 - x := by
  show IntKind.u64.wrap ((BitVec.ofInt 64 18446744073709551615 ^^^ BitVec.ofInt 64 x).toNat : Int) = _
  have h1 : BitVec.ofInt 64 18446744073709551615 = BitVec.allOnes 64 := by decide
  rw [h1, BitVec.allOnes_xor, BitVec.toNat_not, BitVec.toNat_ofInt]
  have e : ((2 ^ 64 - 1 - (x % ((2 ^ 64 : Nat) : Int)).toNat : Nat) : Int) = 18446744073709551615 - x % 18446744073709551616 := by
    have p : ((2 ^ 64 : Nat) : Int) = 18446744073709551616 := by decide +kernel
    have q : (2 ^ 64 : Nat) = 18446744073709551616 := by decide +kernel
    rw [p, q]
    omega
  rw [e, wu64]
  omega
theorem FnExactWideNeg : Say.FnExactWideNeg := by
  intro a b ha hb
  unfold laws_FnExactWideNeg.f laws_toWide.f
  simp only [Option.bind_some]
  unfold spec_WideNeg.f impl_WideNeg.f
  have e1 : wrap64 (-1 - a) = -1 - a := w64 (by omega) (by omega)
  have e2 : IntKind.u64.wrap (18446744073709551615 - b) = 18446744073709551615 - b := by rw [wu64]; omega
  rw [not_i64 a ha, not_u64 b hb, e1, e2, add_same _ _ 0 1 (by omega) (by omega)]
  obtain ⟨r, hr⟩ := spec_add_some (-1 - a) (18446744073709551615 - b) 0 1
  rw [hr]
  simp only [Option.bind_some, laws_eqWide.f, if_true]

end Go.Proofs.Ytfcnceombcgkhaa.Pure
