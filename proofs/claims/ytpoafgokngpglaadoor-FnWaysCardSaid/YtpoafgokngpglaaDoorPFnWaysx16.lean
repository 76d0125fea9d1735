-- Joined by a program of this session's (wip/cards/fwsplit.py).
import Derived.Test.YtpoafgokngpglaaDoorPFnWaysx14
import Derived.Test.YtpoafgokngpglaaDoorPFnWaysx15
namespace Go.Proofs.YtpoafgokngpglaaDoor.PFnWays
open Go.Proofs.YtpoafgokngpglaaDoorPw Go.RowKit Go.Proofs.YtpoafgokngpglaaDoorW.PrintWords Go.Proofs.YtpoafgokngpglaaDoorW.PrintLast Go.Proofs.YtpoafgokngpglaaDoorW.PrintMore Go.Proofs.YtpoafgokngpglaaDoorShort
attribute [local go_sem] max2_int min2_int max_two min_two max_three min_three max_four min_four   -- for this text's walks alone
attribute [local go_sem] fld34_0 fld34_1 fld39_0 fld39_1 fld46_0 fld46_1
set_option linter.unusedVariables false
set_option linter.unusedSimpArgs false

attribute [local go_sem high] eqA41
theorem laws_FnWays.calls (k : Nat) (A0 : Option Addr) (c0 : Nat) (l0 : List Int) (w : World) (hr0 : Kd.C (Kd.int .u8) w A0 l0.length l0) (hc0 : l0.length ≤ c0) (hG : Go.Proofs.YtpoafgokngpglaaDoorPw.TabP w) (h : laws_FnWays.f k l0 = some true) :
  Calls Tryd.prog 7 #[.slice A0 l0.length c0] w fun e w' => e = .returned (.bool true) ∧ Below w.heap.size w w' := by
  by_cases hq : ∀ (t : ByteArray) y, spec_DrawParseWay.f k l0 = some t → impl_ParseWay.f k t = some y → y.1 = 0
  · exact laws_FnWays.callsA k A0 c0 l0 w hr0 hc0 hG hq h
  · exact laws_FnWays.callsB k A0 c0 l0 w hr0 hc0 hG (fun t y h1 h2 h0 => hq (fun t' y' h3 h4 => by
      rw [h1] at h3
      obtain rfl := Option.some.inj h3
      rw [h2] at h4
      obtain rfl := Option.some.inj h4
      exact h0)) h

end Go.Proofs.YtpoafgokngpglaaDoor.PFnWays
