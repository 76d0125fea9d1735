-- Written for this claim by a program of this session's (wip/p2.sh).
import Derived.Test.YtpoafgokngpglaaDoorPFnWaysx0
import Derived.Test.YtpoafgokngpglaaDoorPFnWaysx2
import Derived.Test.YtpoafgokngpglaaDoorPw
namespace Go.Proofs.YtpoafgokngpglaaDoor.PFnWays
open Go.Proofs.YtpoafgokngpglaaDoorPw Go.RowKit Go.Proofs.YtpoafgokngpglaaDoorW.PrintWords Go.Proofs.YtpoafgokngpglaaDoorW.PrintLast Go.Proofs.YtpoafgokngpglaaDoorW.PrintMore
attribute [local go_sem] max2_int min2_int max_two min_two max_three min_three max_four min_four   -- for this text's walks alone
set_option linter.unusedVariables false
set_option linter.unusedSimpArgs false

-- NOT PRINTED: function 124 (strconv_ParseUint)

-- NOT PRINTED: function 111 (strconv_ParseInt_111)

-- NOT PRINTED: function 143 (stringslite_Clone)

-- NOT PRINTED: function 125 (strconv_syntaxError)

-- NOT PRINTED: function 126 (strconv_rangeError)

-- NOT PRINTED: function 144 (errors_New)

-- NOT PRINTED: function 153 (strconv_Itoa_153)

-- NOT PRINTED: function 145 (strconv_Itoa_145)

-- NOT PRINTED: function 127 (strconv_baseError)

-- NOT PRINTED: function 128 (strconv_bitSizeError)

-- NOT PRINTED: function 112 (strconv_toError)

-- NOT PRINTED: function 94 (strconv_ParseInt_94)

/-! ### impl_readNumber: function 65 -/
def impl_readNumber.f (a0 : ByteArray) : Option (Int × Bool) := if a0.size ≤ 281474976710656 then (some (numF a0)) else (none)
set_option maxHeartbeats 8000000 in
set_option maxRecDepth 100000 in
theorem impl_readNumber.calls (a0 : ByteArray) (r1 : Int) (r2 : Bool) (w : World) (hG : TabP w) (h : impl_readNumber.f a0 = some (r1, r2)) :
  Calls Tryd.prog 65 #[.string a0] w fun e w' => e = .returned (.tuple #[.int .i64 r1, .bool r2]) ∧ Below w.heap.size w w' := by
 unfold impl_readNumber.f at h
 by_cases h0 : a0.size ≤ 281474976710656
 ·rw [if_pos h0] at h
  replace h := Option.some.inj h
  unfold numF at h
  rcases hp : Lib.parseIntB 64 a0.data.toList with v | _ | _
  ·rw [hp] at h
   simp only [Prod.mk.injEq] at h
   obtain ⟨rfl, h2⟩ := h
   by_cases c1 : 0 ≤ v
   ·rw [if_pos c1] at h2
    have c1b := eq_true c1
    have c1d : decide (0 ≤ v) = true := decide_eq_true c1
    have c1e : decide (v ≥ 0) = true := decide_eq_true c1
    by_cases c2 : a0.size ≤ 4
    ·rw [if_pos c2] at h2
     have c2b := eq_true c2
     have c2d : decide (a0.size ≤ 4) = true := decide_eq_true c2
     have c2e : decide ((a0.size : Int) ≤ 4) = true := decide_eq_true (by omega)
     have hv64 : v ≤ 9223372036854775807 := parse_le hp
     have hd : impl_digits.f v = some (⟨(Lib.itoa v).toArray⟩ : ByteArray) := by
      unfold impl_digits.f strconv_FormatInt_102.f
      rw [if_pos rfl, if_pos (by omega), if_pos hv64]
      rfl
     by_cases c3 : (⟨(Lib.itoa v).toArray⟩ : ByteArray).toList = a0.toList
     ·rw [decide_eq_true c3] at h2
      subst h2
      have c3b : ((⟨(Lib.itoa v).toArray⟩ : ByteArray).toList == a0.toList) = true := beq_iff_eq.mpr c3
      clear c3
      generalize hs : (⟨(Lib.itoa v).toArray⟩ : ByteArray) = s at hd c3b
      go_enter Tryd.func65, Tryd.ntmps65
      go_wp2_with (first | ((with_reducible refine gate_callee (f := 94) rfl ?_); refine goesL_ (some 8) rfl rfl Tryd.func94 (by kernel_rfl) rfl #[.string a0, .int .i64 10, .int .i64 64] rfl (by (try simp only [List.map_toArray, List.map_cons, List.map_nil]); first | done | rfl) ?_; (refine (Tryd.strconv_ParseInt_10_at64_ok a0 (by omega) v hp w).mono ?_); rintro e w1 ⟨rfl, hw1⟩; refine ⟨_, rfl, ?_⟩; have HB := Aside0.mk (show Below w.heap.size w w1 by rcases hw1 with rfl | ⟨t, rfl⟩; exact Below.refl _ _; exact below_bytes _ _ _); clear hw1))
      refine (impl_digits.calls v s _ (Go.Proofs.YtpoafgokngpglaaDoorTm.TabG_below hG.1 HB.out) hd).mono ?_
      rintro e w2 ⟨rfl, hb⟩
      simp only []
      have n0_ := Aside0.mk (below_step HB.out hb)
      clear HB
      have HB := n0_
      clear n0_ hb
      go_at_K
      go_wp2
      go_ret2
      exact ⟨by first | rfl | (simp; done) | (simp [*]; done), by repeat (first | (with_reducible first | exact HB.out | apply below_alloc | apply pw_below_drewN | apply below_drew1) | exact HB.out)⟩
     ·rw [decide_eq_false c3] at h2
      subst h2
      have c3b : ((⟨(Lib.itoa v).toArray⟩ : ByteArray).toList == a0.toList) = false := beq_eq_false_iff_ne.mpr c3
      clear c3
      generalize hs : (⟨(Lib.itoa v).toArray⟩ : ByteArray) = s at hd c3b
      go_enter Tryd.func65, Tryd.ntmps65
      go_wp2_with (first | ((with_reducible refine gate_callee (f := 94) rfl ?_); refine goesL_ (some 8) rfl rfl Tryd.func94 (by kernel_rfl) rfl #[.string a0, .int .i64 10, .int .i64 64] rfl (by (try simp only [List.map_toArray, List.map_cons, List.map_nil]); first | done | rfl) ?_; (refine (Tryd.strconv_ParseInt_10_at64_ok a0 (by omega) v hp w).mono ?_); rintro e w1 ⟨rfl, hw1⟩; refine ⟨_, rfl, ?_⟩; have HB := Aside0.mk (show Below w.heap.size w w1 by rcases hw1 with rfl | ⟨t, rfl⟩; exact Below.refl _ _; exact below_bytes _ _ _); clear hw1))
      refine (impl_digits.calls v s _ (Go.Proofs.YtpoafgokngpglaaDoorTm.TabG_below hG.1 HB.out) hd).mono ?_
      rintro e w2 ⟨rfl, hb⟩
      simp only []
      have n0_ := Aside0.mk (below_step HB.out hb)
      clear HB
      have HB := n0_
      clear n0_ hb
      go_at_K
      go_wp2
      go_ret2
      exact ⟨by first | rfl | (simp; done) | (simp [*]; done), by repeat (first | (with_reducible first | exact HB.out | apply below_alloc | apply pw_below_drewN | apply below_drew1) | exact HB.out)⟩
    ·rw [if_neg c2] at h2
     subst h2
     have c2b := eq_false c2
     have c2d : decide (a0.size ≤ 4) = false := decide_eq_false c2
     have c2e : decide ((a0.size : Int) ≤ 4) = false := decide_eq_false (by omega)
     go_enter Tryd.func65, Tryd.ntmps65
     go_wp2_with (first | ((with_reducible refine gate_callee (f := 94) rfl ?_); refine goesL_ (some 8) rfl rfl Tryd.func94 (by kernel_rfl) rfl #[.string a0, .int .i64 10, .int .i64 64] rfl (by (try simp only [List.map_toArray, List.map_cons, List.map_nil]); first | done | rfl) ?_; (refine (Tryd.strconv_ParseInt_10_at64_ok a0 (by omega) v hp w).mono ?_); rintro e w1 ⟨rfl, hw1⟩; refine ⟨_, rfl, ?_⟩; have HB := Aside0.mk (show Below w.heap.size w w1 by rcases hw1 with rfl | ⟨t, rfl⟩; exact Below.refl _ _; exact below_bytes _ _ _); clear hw1))
     go_ret2
     exact ⟨by first | rfl | (simp; done) | (simp [*]; done), by repeat (first | (with_reducible first | exact HB.out | apply below_alloc | apply pw_below_drewN | apply below_drew1) | exact HB.out)⟩
   ·rw [if_neg c1] at h2
    subst h2
    have c1b := eq_false c1
    have c1d : decide (0 ≤ v) = false := decide_eq_false c1
    have c1e : decide (v ≥ 0) = false := decide_eq_false c1
    go_enter Tryd.func65, Tryd.ntmps65
    go_wp2_with (first | ((with_reducible refine gate_callee (f := 94) rfl ?_); refine goesL_ (some 8) rfl rfl Tryd.func94 (by kernel_rfl) rfl #[.string a0, .int .i64 10, .int .i64 64] rfl (by (try simp only [List.map_toArray, List.map_cons, List.map_nil]); first | done | rfl) ?_; (refine (Tryd.strconv_ParseInt_10_at64_ok a0 (by omega) v hp w).mono ?_); rintro e w1 ⟨rfl, hw1⟩; refine ⟨_, rfl, ?_⟩; have HB := Aside0.mk (show Below w.heap.size w w1 by rcases hw1 with rfl | ⟨t, rfl⟩; exact Below.refl _ _; exact below_bytes _ _ _); clear hw1))
    go_ret2
    exact ⟨by first | rfl | (simp; done) | (simp [*]; done), by repeat (first | (with_reducible first | exact HB.out | apply below_alloc | apply pw_below_drewN | apply below_drew1) | exact HB.out)⟩
  ·rw [hp] at h
   simp only [Prod.mk.injEq] at h
   obtain ⟨rfl, rfl⟩ := h
   obtain ⟨_, _, ⟨ev, hv, hev⟩, _⟩ := hG
   go_enter Tryd.func65, Tryd.ntmps65
   go_wp2_with (first | ((with_reducible refine gate_callee (f := 94) rfl ?_); refine goesL_ (some 8) rfl rfl Tryd.func94 (by kernel_rfl) rfl #[.string a0, .int .i64 10, .int .i64 64] rfl (by (try simp only [List.map_toArray, List.map_cons, List.map_nil]); first | done | rfl) ?_; (refine (Tryd.strconv_ParseInt_10_at64_syntax a0 h0 hp ev w hv hev).mono ?_); rintro e w1 ⟨n1, rfl, _, _, hb⟩; refine ⟨_, rfl, ?_⟩; have HB := Aside0.mk hb; clear hb))
   go_ret2
   exact ⟨by first | rfl | (simp; done) | (simp [*]; done), by repeat (first | (with_reducible first | exact HB.out | apply below_alloc | apply pw_below_drewN | apply below_drew1) | exact HB.out)⟩
  ·rw [hp] at h
   simp only [Prod.mk.injEq] at h
   obtain ⟨rfl, rfl⟩ := h
   obtain ⟨_, _, _, ⟨ev, hv, hev⟩⟩ := hG
   go_enter Tryd.func65, Tryd.ntmps65
   go_wp2_with (first | ((with_reducible refine gate_callee (f := 94) rfl ?_); refine goesL_ (some 8) rfl rfl Tryd.func94 (by kernel_rfl) rfl #[.string a0, .int .i64 10, .int .i64 64] rfl (by (try simp only [List.map_toArray, List.map_cons, List.map_nil]); first | done | rfl) ?_; (refine (Tryd.strconv_ParseInt_10_at64_range a0 h0 hp ev w hv hev).mono ?_); rintro e w1 ⟨n1, rfl, _, _, hb⟩; refine ⟨_, rfl, ?_⟩; have HB := Aside0.mk hb; clear hb))
   go_ret2
   exact ⟨by first | rfl | (simp; done) | (simp [*]; done), by repeat (first | (with_reducible first | exact HB.out | apply below_alloc | apply pw_below_drewN | apply below_drew1) | exact HB.out)⟩
 ·rw [if_neg h0] at h
  cases h

end Go.Proofs.YtpoafgokngpglaaDoor.PFnWays
