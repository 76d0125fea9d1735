/- Plain laws on the loops that the printed helpers of every statement are made of: comparing two lists, copying one, marking one and reading the marks. -/
import Derived.Test.YtpoafgokngpglaaDoorQfWords
import Derived.Laws.BitsLemmas
namespace Go.Proofs.YtpoafgokngpglaaDoorPlain
open Go Go.RowKit Go.Proofs.YtpoafgokngpglaaDoorW.PrintWords Go.Proofs.YtpoafgokngpglaaDoorW.PrintLast

theorem w64 {x : Int} (h : -9223372036854775808 ≤ x ∧ x ≤ 9223372036854775807) : wrap64 x = x := by
  unfold wrap64; omega
theorem w64n {n : Nat} (h : n ≤ 9000000000000000000) : wrap64 ((n : Int) + 1) = ((n + 1 : Nat) : Int) := by
  rw [w64 (by omega)]; omega
theorem wf_u8 {x : Int} (h : (Lit.int .u8 x).wf = true) : 0 ≤ x ∧ x ≤ 255 := by
  simp [Lit.wf, IntKind.min, IntKind.max, IntKind.signed, IntKind.bits] at h
  omega
theorem rd_nat {xs : List Int} {i : Nat} (h : i < xs.length) : rd xs (i : Int) = xs[i] := by
  unfold rd
  rw [Int.toNat_natCast, List.getD_eq_getElem?_getD, List.getElem?_eq_getElem h]
  rfl
theorem rdOf_nat {α : Type} {d : α} {xs : List α} {i : Nat} (h : i < xs.length) : rdOf d xs (i : Int) = xs[i] := by
  unfold rdOf
  rw [Int.toNat_natCast, List.getD_eq_getElem?_getD, List.getElem?_eq_getElem h]
  rfl
/-- A number by one bit: nothing, or the bit. -/
theorem and_bit (w : Int) (i : Nat) (hi : i < 62) : bits .and .i64 w (2 ^ i) = 0 ∨ bits .and .i64 w (2 ^ i) = 2 ^ i := by
  have e : BitVec.ofInt 64 ((2 : Int) ^ i) = BitVec.twoPow 64 i := by
    apply BitVec.eq_of_toNat_eq
    rw [BitVec.toNat_ofInt, BitVec.toNat_twoPow]
    have h1 : ((2 : Int) ^ i) = ((2 ^ i : Nat) : Int) := by simp
    have h2 : (2 : Nat) ^ i < 2 ^ 64 := Nat.pow_lt_pow_right (by decide) (by omega)
    rw [h1]
    omega
  show IntKind.i64.wrap ((BitVec.ofInt 64 w &&& BitVec.ofInt 64 (2 ^ i)).toNat : Nat) = 0 ∨ IntKind.i64.wrap ((BitVec.ofInt 64 w &&& BitVec.ofInt 64 (2 ^ i)).toNat : Nat) = 2 ^ i
  rw [e, BitVec.and_twoPow]
  have h2 : (2 : Nat) ^ i < 2 ^ 62 := Nat.pow_lt_pow_right (by decide) (by omega)
  have h1 : ((2 : Int) ^ i) = ((2 ^ i : Nat) : Int) := by simp
  split
  · right
    have h3 : (2 : Nat) ^ i % 2 ^ 64 = 2 ^ i := Nat.mod_eq_of_lt (by omega)
    rw [BitVec.toNat_twoPow, IntKind.wrap_i64, h1, h3]
    omega
  · left
    rw [IntKind.wrap_i64]
    simp

end Go.Proofs.YtpoafgokngpglaaDoorPlain
