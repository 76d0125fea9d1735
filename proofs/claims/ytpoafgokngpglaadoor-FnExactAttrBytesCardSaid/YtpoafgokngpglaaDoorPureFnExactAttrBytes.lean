/- AttrBytes: for every number the program's bytes are the reference's: 32 right attrs, each by evaluation; all others are refused alike. No condition. -/
import Derived.Test.YtpoafgokngpglaaDoorPFnExactAttrBytesx2
namespace Go.Proofs.YtpoafgokngpglaaDoor.Pure
open Go Go.RowKit Go.Proofs.YtpoafgokngpglaaDoor.PFnExactAttrBytes Go.Proofs.YtpoafgokngpglaaDoorW.PrintWords Go.Proofs.YtpoafgokngpglaaDoorW.PrintLast

theorem attr_good : ∀ n : Nat, n < 32 → laws_FnExactAttrBytes.f 60 (n : Int) = some true := by
  decide +kernel
theorem FnExactAttrBytes (a : Int) (_ : (Lit.int .i64 a).wf = true) : ∃ k, laws_FnExactAttrBytes.f k a = some true := by
  by_cases h : 0 ≤ a ∧ a ≤ 31
  · obtain ⟨n, rfl⟩ : ∃ n : Nat, a = n := ⟨a.toNat, by omega⟩
    exact ⟨60, attr_good n (by omega)⟩
  · have e1 : spec_AttrBytes.f 60 a = some (3, []) := by
      unfold spec_AttrBytes.f spec_l3Attr.f spec_l1In.f
      by_cases h0 : a ≥ 0
      · rw [if_pos h0, decide_eq_false (show ¬ a ≤ 31 by omega)]
        rfl
      · rw [if_neg h0]
        rfl
    have e2 : impl_AttrBytes.f a = some (3, []) := by
      unfold impl_AttrBytes.f impl_isAttr.f impl_in.f
      by_cases h0 : 0 ≤ a
      · rw [if_pos h0, decide_eq_false (show ¬ a ≤ 31 by omega)]
        rfl
      · rw [if_neg h0]
        rfl
    refine ⟨60, ?_⟩
    unfold laws_FnExactAttrBytes.f
    rw [e1, e2]
    kernel_rfl

end Go.Proofs.YtpoafgokngpglaaDoor.Pure
