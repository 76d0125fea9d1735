-- Written for this claim by a program of this session's (wip/p2.sh).
import Derived.Test.YtpoafgokngpglaaDoorPFnExactActionTextx0
namespace Go.Proofs.YtpoafgokngpglaaDoor.PFnExactActionText
open Go.RowKit Go.Proofs.YtpoafgokngpglaaDoorW.PrintWords Go.Proofs.YtpoafgokngpglaaDoorW.PrintLast Go.Proofs.YtpoafgokngpglaaDoorW.PrintMore
attribute [local go_sem] max2_int min2_int max_two min_two max_three min_three max_four min_four   -- for this text's walks alone
set_option linter.unusedVariables false
set_option linter.unusedSimpArgs false

-- NOT PRINTED: function 131 (strconv_numDigits)

-- NOT PRINTED: function 132 (strconv_formatBase10)

-- NOT PRINTED: function 154 (bits_TrailingZeros32)

-- NOT PRINTED: function 155 (bits_TrailingZeros64)

-- NOT PRINTED: function 150 (bits_TrailingZeros)

-- NOT PRINTED: function 133 (strconv_formatBits)

-- NOT PRINTED: function 117 (strconv_FormatInt_117)

/-! ### strconv_FormatInt_102: function 102 -/
def strconv_FormatInt_102.f (a0 : Int) (a1 : Int) : Option (ByteArray) := if a1 = 10 then (if -9223372036854775808 ≤ a0 then (if a0 ≤ 9223372036854775807 then (some ⟨(Lib.itoa a0).toArray⟩) else (none)) else (none)) else (none)
theorem strconv_FormatInt_102.calls (a0 : Int) (a1 : Int) (r : ByteArray) (w : World) (hG : Go.Proofs.YtpoafgokngpglaaDoorTm.TabG w) (h : strconv_FormatInt_102.f a0 a1 = some r) :
    Calls Tryd.prog 102 #[.int .i64 a0, .int .i64 a1] w fun e w' => e = .returned (.string r) ∧ Below w.heap.size w w' := by
  unfold strconv_FormatInt_102.f at h
  split at h
  · rename_i h0
    split at h
    · rename_i h1
      split at h
      · rename_i h2
        obtain rfl := Option.some.inj h
        subst h0
        refine (Tryd.strconv_FormatInt_10 a0 h1 h2 w hG).mono ?_
        rintro e w' ⟨he, k, os, rfl⟩
        exact ⟨he, Lib.below_grow _ w (Nat.le_refl _) k os⟩
      · cases h
    · cases h
  · cases h

/-! ### impl_digits: function 81 -/
def impl_digits.f (a0 : Int) : Option (ByteArray) := (strconv_FormatInt_102.f a0 10).bind fun t193 => (some t193)
set_option maxHeartbeats 8000000 in
set_option maxRecDepth 100000 in
theorem impl_digits.calls (a0 : Int) (r : ByteArray) (w : World) (hG : Go.Proofs.YtpoafgokngpglaaDoorTm.TabG w) (h : impl_digits.f a0 = some r) :
    Calls Tryd.prog 81 #[.int .i64 a0] w fun e w' => e = .returned (.string r) ∧ Below w.heap.size w w' := by
  have HB := Aside0.mk (Below.refl w.heap.size w)
  have H : ((strconv_FormatInt_102.f a0 10).bind fun t193 => (some t193)) = some r := h
  clear h
  replace H := Option.bind_eq_some_iff.mp H
  obtain ⟨t193, A20, H⟩ := H
  replace H : (some t193) = some r := H
  have A2 := Aside0.mk A20
  clear A20
  obtain rfl := Option.some.inj H
  go_enter Tryd.func81, Tryd.ntmps81
  go_wp2_with (first | ((with_reducible refine gate_callee (f := 102) rfl ?_); refine goesL_ (some 4) rfl rfl Tryd.func102 (by kernel_rfl) rfl #[.int .i64 a0, .int .i64 10] rfl (by (try simp only [List.map_toArray, List.map_cons, List.map_nil]); first | done | rfl | (simp only [List.length_drop, List.length_take]; rfl)) ?_; (refine (strconv_FormatInt_102.calls a0 10 t193 _ (Go.Proofs.YtpoafgokngpglaaDoorTm.TabG_below hG (by repeat (first | (with_reducible first | exact HB.out | apply below_alloc | apply pw_below_drewN | apply below_drew1) | exact HB.out))) A2.out).mono ?_); rintro e w3 ⟨rfl, hb⟩; refine ⟨_, rfl, ?_⟩; have n0_ := Aside0.mk (below_step (by repeat (first | (with_reducible first | exact HB.out | apply below_alloc | apply pw_below_drewN | apply below_drew1) | exact HB.out)) hb); clear HB; have HB := n0_; clear n0_; (try clear hb); (try clear hb2); (try clear hk); (try clear hi)))
  go_ret
  exact ⟨by first | rfl | (simp [errW_none, errW_some] <;> rfl) | (simp [*, errW_none, errW_some] <;> rfl), by repeat (first | (with_reducible first | exact HB.out | apply below_alloc | apply pw_below_drewN | apply below_drew1) | exact HB.out)⟩

-- NOT PRINTED: function 134 (abi_NoEscape)

-- NOT PRINTED: function 118 (strings_Builder_copyCheck)

-- NOT PRINTED: function 135 (bytealg_MakeNoZero)

-- NOT PRINTED: function 119 (strings_Builder_grow)

-- NOT PRINTED: function 103 (strings_Builder_Grow)

-- NOT PRINTED: function 104 (strings_Builder_WriteString)

-- NOT PRINTED: function 105 (strings_Builder_String)

/-! ### strings_Join: function 82 -/
def strings_Join.f (l0 : List ByteArray) (a1 : ByteArray) : Option (ByteArray) := if l0.length ≤ 1000000000 then (if (Lib.join (l0.map (fun x => x.data.toList)) a1.data.toList).length ≤ 140737488355328 then (some ⟨(Lib.join (l0.map (fun x => x.data.toList)) a1.data.toList).toArray⟩) else (none)) else (none)
theorem strings_Join.calls (A0 : Option Addr) (c0 : Nat) (l0 : List ByteArray) (a1 : ByteArray) (r : ByteArray) (w : World) (hr0 : Kd.C Kd.string w A0 l0.length l0) (hc0 : l0.length ≤ c0) (h : strings_Join.f l0 a1 = some r) :
    Calls Tryd.prog 82 #[.slice A0 l0.length c0, .string a1] w fun e w' => e = .returned (.string r) ∧ Below w.heap.size w w' := by
  unfold strings_Join.f at h
  split at h
  · rename_i h0
    split at h
    · rename_i h1
      obtain rfl := Option.some.inj h
      clear h
      by_cases q : l0 = []
      · subst q
        refine (Tryd.strings_Join_none A0 c0 a1 w).mono ?_
        rintro e w' ⟨he, rfl⟩
        exact ⟨he, Below.refl _ _⟩
      · obtain ⟨_, hc⟩ := Go.Proofs.YtpoafgokngpglaaDoorFlat.Flat.C Go.Proofs.YtpoafgokngpglaaDoorTm.flatStr hr0
        obtain ⟨ad, rfl, hcell⟩ := hc (List.length_pos_iff.2 q)
        have hx : ∀ (j : Nat) x, l0[j]? = some x → w.cell? (ad.add j) = some (.string x) := fun j x hj => hcell j _ (by rw [Go.Proofs.YtpoafgokngpglaaDoorTm.flat_str, List.getElem?_map, hj]; rfl)
        have hp : 0 < l0.length := List.length_pos_iff.2 q
        have h00 := hx 0 _ (List.getElem?_eq_getElem hp)
        obtain ⟨bk, o, sp⟩ := ad
        have hsp : sp = none := by
          have := World.cell?_spot h00
          simpa [Addr.add] using this
        subst hsp
        have hy : ∀ (j : Nat) x, l0[j]? = some x → w.cell? ⟨bk, o + j, none⟩ = some (.string x) := fun j x hj => by
          have := hx j x hj
          rwa [Addr.add_lit] at this
        exact Tryd.strings_Join bk o c0 l0 a1 w hy (World.block_lt_of_cell? w _ (hy 0 _ (List.getElem?_eq_getElem hp))) (by omega) hc0 h1
    · cases h
  · cases h

end Go.Proofs.YtpoafgokngpglaaDoor.PFnExactActionText
