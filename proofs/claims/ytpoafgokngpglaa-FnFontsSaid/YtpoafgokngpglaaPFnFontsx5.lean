-- Written for this claim by a program of this session's (wip/p2.sh).
import Derived.Test.YtpoafgokngpglaaQcIns
import Derived.Test.YtpoafgokngpglaaQcShort
import Derived.Deep.RegionLaw
import Derived.Lib.SliceRun
import Derived.Test.YtpoafgokngpglaaQcClear
import Derived.Test.YtpoafgokngpglaaPFnFontsx0
namespace Go.Proofs.Ytpoafgokngpglaa.PFnFonts
open Go.Proofs.YtpoafgokngpglaaCopy Go.Proofs.YtpoafgokngpglaaFlat Go.Proofs.YtpoafgokngpglaaIns Go.Proofs.YtpoafgokngpglaaClear Go.RowKit Go.Proofs.YtpoafgokngpglaaW.PrintWords Go.Proofs.YtpoafgokngpglaaW.PrintLast Go.Proofs.YtpoafgokngpglaaW.PrintMore Go.Proofs.YtpoafgokngpglaaShort
attribute [local go_sem] max2_int min2_int max_two min_two max_three min_three max_four min_four   -- for this text's walks alone
set_option linter.unusedVariables false
set_option linter.unusedSimpArgs false

/-! ### impl_Pair_49: function 49 -/
def impl_Pair_49.f (l0 : List (S28)) : Option ((List (S28))) := (some (([] : List (S28)) : List (S28))).bind fun y211 => (if y211.length + l0.length < 8796093022208 then (some (y211 ++ l0)) else (none))
set_option maxHeartbeats 8000000 in
set_option maxRecDepth 100000 in
theorem impl_Pair_49.calls (A0 : Option Addr) (c0 : Nat) (l0 : List (S28)) (r : List (S28)) (w : World) (hr0 : Kd.C k28 w A0 l0.length l0) (hc0 : l0.length ≤ c0) (h : impl_Pair_49.f l0 = some r) :
  Calls Try.prog 49 #[.slice A0 l0.length c0] w fun e w' => ∃ v0_ : Value, e = .returned (v0_) ∧ Kd.R k28 28 w' w.heap.size (fun _ => True) v0_ r ∧ Below w.heap.size w w' := by
 have HR0 := Aside0.mk hr0
 have HC0 := Aside0.mk hc0
 clear hr0 hc0
 have HB := Aside0.mk (Below.refl w.heap.size w)
 have H : ((some (([] : List (S28)) : List (S28))).bind fun y211 => (if y211.length + l0.length < 8796093022208 then (some (y211 ++ l0)) else (none))) = some r := h
 clear h
 obtain ⟨y211, hy211⟩ : ∃ y_ : List (S28), y_ = (([] : List (S28))) := ⟨_, rfl⟩
 replace H : (if y211.length + l0.length < 8796093022208 then (some (y211 ++ l0)) else (none)) = some r := by first | (rw [hy211]; with_reducible exact H) | (have H2_ := (Option.bind_some _ _).symm.trans H; rw [hy211]; with_reducible exact H2_) | (have H2_ := (Option.bind_some _ _).symm.trans H; with_reducible exact H2_) | with_reducible exact H | (rw [hy211]; exact H) | exact H
 have Ny211 := Aside0.mk hy211
 clear hy211
 by_cases c2 : y211.length + l0.length < 8796093022208
 ·rw [if_pos c2] at H
  have LMc2 := Aside0.mk c2
  clear c2
  obtain ⟨y214, hy214⟩ : ∃ y_ : List (S28), y_ = (y211 ++ l0) := ⟨_, rfl⟩
  replace H : (some y214) = some r := by first | (rw [hy214]; with_reducible exact H) | (have H2_ := (Option.bind_some _ _).symm.trans H; rw [hy214]; with_reducible exact H2_) | (have H2_ := (Option.bind_some _ _).symm.trans H; with_reducible exact H2_) | with_reducible exact H | (rw [hy214]; exact H) | exact H
  have Ny214 := Aside0.mk hy214
  clear hy214
  obtain rfl := Option.some.inj H
  rcases A0 with _ | a
  ·have e0 : l0 = [] := by
    rcases Nat.eq_zero_or_pos l0.length with h | h
    ·exact List.length_eq_zero_iff.1 h
    ·obtain ⟨ad, h', _⟩ := HR0.out.2.2 h
     cases h'
   subst e0
   have hnil : ∀ w' : World, (binOp .eql 24 (.slice none 0 c0) (.slice none 0 0)).run Try.prog w' = .ok (.bool true) w' := fun w' => Lib.run_eql_slice_nil w' 24 28 none 0 c0 0 0 Try.underlying24
   go_enter Try.func49, Try.ntmps49
   go_wp2
   go_ret
   exact ⟨_, rfl, by rw [Ny214.out, Ny211.out]; exact Kd.R_nil _ _ _ _ _, by repeat (first | exact HB.out | apply below_alloc | apply pw_below_drewN | apply below_drew1)⟩
  ·have hnil : ∀ w' : World, (binOp .eql 24 (.slice (some a) l0.length c0) (.slice none 0 0)).run Try.prog w' = .ok (.bool false) w' := fun w' => Lib.run_eql_slice_nil w' 24 28 (some a) l0.length c0 0 0 Try.underlying24
   go_enter Try.func49, Try.ntmps49
   go_wp2_with (first | ((with_reducible refine gate_dst (N := 5) rfl ?_); refine Kd.R_lit k28 _ 28 ?hg (N := 5) ?hd (xs := ([] : List (S28))) (inner := []) (ok := fun _ => True) (okp := fun _ => True) ?hr ?hp (fun _ hk => hk) trivial (Below.refl _ _) (Nat.le_refl _) (by simp) ?_; (case hd => rfl); (case hg => rfl); (case hr => first | (go_simp; done) | (go_simp; rfl)); (case hp => exact (Reps.none _ _)); intro v212 w3 ho4 hb hg_ hnew_; clear hg_ hnew_; (first | rw [← Ny211.out] at ho4 | (simp only [Int.reduceToNat] at ho4; rw [← Ny211.out] at ho4)); have n0_ := Aside0.mk (Kd.R_lower ho4 (below_size (by repeat (first | (with_reducible first | exact HB.out | apply below_alloc | apply pw_below_drewN | apply below_drew1) | exact HB.out)))); have n1_ := Aside0.mk (below_step (by repeat (first | (with_reducible first | exact HB.out | apply below_alloc | apply pw_below_drewN | apply below_drew1) | exact HB.out)) hb); clear HB; have HO213 := n0_; have HB := n1_; clear n0_ n1_; clear hb ho4) | ((with_reducible refine gate_builtin (b := .append) (xs := #[.tmp 5, .tmp 6]) rfl ?_); at_builtin; refine Kd.R_append_rows k28 (w0 := w) w.heap.size rfl (.tmp 5) (.tmp 6) 24 28 (.agg #[(.int .i64 0), (.int .i64 0)]) 16 rfl Try.underlying24 info28 rfl (by decide) (by omega) v212 y211 l0 _ _ _ (fun _ => True) (fun _ => False) rfl rfl ?aO ?aR (fun _ _ h => h) (fun _ h => h.elim) ?aF ?aB ?aS ?aL ?_; (case aR => repeat (first | exact (Kd.C_below HR0.out HB.out) | (with_reducible refine Kd.C_alloc ?_ _) | (with_reducible refine Kd.C_drewN ?_ _) | (with_reducible refine Kd.C_drew ?_))); (case aB => exact (by repeat (first | (with_reducible first | exact HB.out | apply below_alloc | apply pw_below_drewN | apply below_drew1) | exact HB.out))); (case aF => exact (fun _ _ => trivial)); (case aO => exact (by (with_reducible repeat (first | apply Kd.R_alloc | apply Kd.R_drewN | apply Kd.R_drew)); exact HO213.out)); (case aS => exact (below_size (by repeat (first | (with_reducible first | exact HB.out | apply below_alloc | apply pw_below_drewN | apply below_drew1) | exact HB.out)))); (case aL => have := LMc2.out; omega); intro v215 w5 ho hb hg hat; rw [← Ny214.out] at ho; have n0_ := Aside0.mk (hb); have n1_ := Aside0.mk (ho); clear HB; clear HO213; have HB := n0_; have HO216 := n1_; clear n0_ n1_; clear ho hb hg hat))
   go_ret
   exact ⟨_, by first | rfl | (simp [errW_none, errW_some] <;> rfl) | (simp [*, errW_none, errW_some] <;> rfl), by (with_reducible repeat (first | apply Kd.R_alloc | apply Kd.R_drewN | apply Kd.R_drew)); exact HO216.out, by repeat (first | (with_reducible first | exact HB.out | apply below_alloc | apply pw_below_drewN | apply below_drew1) | exact HB.out)⟩
 ·rw [if_neg c2] at H
  exact absurd H (by simp)

/-! ### impl_Font_place_1: function 84 -/
def impl_Font_place_1.f (a0_0 : Int) (a0_1 : Int) (a1 : Int) : Option (Int) := some (wrap64 (a0_0 - a1))
set_option maxHeartbeats 8000000 in
set_option maxRecDepth 100000 in
theorem impl_Font_place_1.calls (a0_0 : Int) (a0_1 : Int) (a1 : Int) (r : Int) (w : World) (h : impl_Font_place_1.f a0_0 a0_1 a1 = some r) :
  Calls Try.prog 84 #[.agg #[.int .i64 a0_0, .int .i64 a0_1], .int .i64 a1] w fun e w' => e = .returned (.int .i64 r) ∧ Below w.heap.size w w' := by
 have hu28 := Try.underlying28
 have HB := Aside0.mk (Below.refl w.heap.size w)
 have H : (some (wrap64 (a0_0 - a1))) = some r := h
 clear h
 obtain rfl := Option.some.inj H
 go_enter Try.func84, Try.ntmps84
 go_wp2_with (first | ((with_reducible refine gate_dst (N := 2) rfl ?_); refine box_event ?hg (N := 2) ?hd (cs := #[.int .i64 a0_0, .int .i64 a0_1]) (t := 28) ?hr ?_; (case hd => rfl); (case hg => rfl); (case hr => first | (go_simp; done) | (go_simp; rfl)); intro gb217 hg w3 hbox hb; have n0_ := Aside0.mk (below_step (by repeat (first | (with_reducible first | exact HB.out | apply below_alloc | apply pw_below_drewN | apply below_drew1) | exact HB.out)) hb); have n1_ := Aside0.mk (hbox); have n2_ := Aside0.mk ((by rw [hg]; exact (below_size (by repeat (first | (with_reducible first | exact HB.out | apply below_alloc | apply pw_below_drewN | apply below_drew1) | exact HB.out))) : w.heap.size ≤ gb217)); have n3_ := Aside0.mk ((by rw [hg]; exact (below_size (by repeat (first | (with_reducible first | exact HB.out | apply below_alloc | apply pw_below_drewN | apply below_drew1) | exact HB.out))) : w.heap.size ≤ gb217)); clear HB; have HB := n0_; have BK217 := n1_; have GW217 := n2_; have GE217 := n3_; clear n0_ n1_ n2_ n3_; clear hb hbox hg; have hcz4_0 : w3.cell? ⟨gb217, 0, none⟩ = some (.int .i64 a0_0) := (blk_cell BK217.out 0).trans rfl; have hcz4_1 : w3.cell? ⟨gb217, 1, none⟩ = some (.int .i64 a0_1) := (blk_cell BK217.out 1).trans rfl; have hfz4_0 := blk_frozen BK217.out 0; have hfz4_1 := blk_frozen BK217.out 1))
 go_ret
 exact ⟨by first | rfl | (simp [errW_none, errW_some] <;> rfl) | (simp [*, errW_none, errW_some] <;> rfl), by repeat (first | (with_reducible first | exact HB.out | apply below_alloc | apply pw_below_drewN | apply below_drew1 | refine below_set ?_ GE217.out) | exact HB.out)⟩

/-! ### impl_Pair_int64: function 83 -/
def impl_Pair_int64.l0 : Nat → List (S28) → Int → Int → Int → Int → Option (Int × Bool)
 | 0, _, _, _, _, _ => none
 | k + 1, x0, x1, x8, x9, x10 => if x9 < x10 then (if 0 ≤ (wrap64 ((IntKind.u64.wrap (wrap64 (x9 + x10))) / 2)) then (if (wrap64 ((IntKind.u64.wrap (wrap64 (x9 + x10))) / 2)) < (x0.length : Int) then ((impl_Font_place_1.f ((rd_T28 x0 (wrap64 ((IntKind.u64.wrap (wrap64 (x9 + x10))) / 2))).f0) ((rd_T28 x0 (wrap64 ((IntKind.u64.wrap (wrap64 (x9 + x10))) / 2))).f1) x1).bind fun t219 => (if t219 < 0 then (impl_Pair_int64.l0 k x0 x1 x8 (wrap64 ((wrap64 ((IntKind.u64.wrap (wrap64 (x9 + x10))) / 2)) + 1)) x10) else (impl_Pair_int64.l0 k x0 x1 x8 x9 (wrap64 ((IntKind.u64.wrap (wrap64 (x9 + x10))) / 2))))) else (none)) else (none)) else (if x9 < x8 then (if 0 ≤ x9 then (if x9 < (x0.length : Int) then ((impl_Font_place_1.f ((rd_T28 x0 x9).f0) ((rd_T28 x0 x9).f1) x1).bind fun t221 => (some (x9, (t221 == 0)))) else (none)) else (none)) else (some (x9, false)))
def impl_Pair_int64.f (k : Nat) (l0 : List (S28)) (a1 : Int)  : Option (Int × Bool) := impl_Pair_int64.l0 k l0 a1 (l0.length : Int) 0 (l0.length : Int)
theorem impl_Pair_int64.mono_l : ∀ k, (∀ y0 y1 y2 y3 y4, LeO (impl_Pair_int64.l0 k y0 y1 y2 y3 y4) (impl_Pair_int64.l0 (k + 1) y0 y1 y2 y3 y4))
 | 0 => fun _ _ _ _ _ r h => by simp [impl_Pair_int64.l0] at h
 | k + 1 => by
  have ih0 := impl_Pair_int64.mono_l k
  ·intro y0 y1 y2 y3 y4
   unfold impl_Pair_int64.l0
   repeat' first
   | (with_reducible exact ih0 _ _ _ _ _)
   | (with_reducible exact LeO.refl _)
   | (with_reducible exact LeO.none _)
   | (with_reducible refine LeO.ite ?_ ?_)
   | (with_reducible refine LeO.bind ?_ (fun _ => ?_))
   | exact ih0 _ _ _ _ _
   | exact LeO.none _
   | refine LeO.ite ?_ ?_
   | refine LeO.bind ?_ (fun _ => ?_)
theorem impl_Pair_int64.mono : ∀ a0 a1 k, LeO (impl_Pair_int64.f k a0 a1) (impl_Pair_int64.f (k + 1) a0 a1) := by
 intro a0 a1 k
 have ih0 := impl_Pair_int64.mono_l k
 unfold impl_Pair_int64.f
 repeat' first
   | (with_reducible exact ih0 _ _ _ _ _)
   | (with_reducible exact LeO.refl _)
   | (with_reducible exact LeO.none _)
   | (with_reducible refine LeO.ite ?_ ?_)
   | (with_reducible refine LeO.bind ?_ (fun _ => ?_))
   | exact ih0 _ _ _ _ _
   | exact LeO.none _
   | refine LeO.ite ?_ ?_
   | refine LeO.bind ?_ (fun _ => ?_)
set_option maxHeartbeats 8000000 in
set_option maxRecDepth 100000 in
theorem impl_Pair_int64.calls (k : Nat) (A0 : Option Addr) (c0 : Nat) (l0 : List (S28)) (a1 : Int)  (r1 : Int) (r2 : Bool) (w : World) (hr0 : Kd.C k28 w A0 l0.length l0) (hc0 : l0.length ≤ c0) (h : impl_Pair_int64.f k l0 a1 = some (r1, r2)) :
  Calls Try.prog 83 #[.slice A0 l0.length c0, .int .i64 a1, .func (.func 84) #[] #[]] w fun e w' => e = .returned (.tuple #[.int .i64 r1, .bool r2]) ∧ Below w.heap.size w w' := by
 have hu28 := Try.underlying28
 have HR0 := Aside0.mk hr0
 have HC0 := Aside0.mk hc0
 clear hr0 hc0
 have HB := Aside0.mk (Below.refl w.heap.size w)
 have H : (impl_Pair_int64.l0 k l0 a1 (l0.length : Int) 0 (l0.length : Int)) = some (r1, r2) := h
 clear h
 have H' := Aside0.mk H
 clear H
 go_enter Try.func83, Try.ntmps83
 go_wp2
 go_loopg [9, 10] k (fun kq v9 v10 w' => ∃ (x9_1 : Int) (x10_1 : Int), v9 = .int .i64 x9_1 ∧ v10 = .int .i64 x10_1 ∧ Aside0 (impl_Pair_int64.l0 kq l0 a1 (l0.length : Int) x9_1 x10_1 = some (r1, r2)) ∧ Aside0 (kq ≤ k) ∧ Aside0 (Below w.heap.size w w'))
 case atStart => exact ⟨(0), ((l0.length : Int)), (by first | rfl | (simp; done) | (simp [*]; done)), (by first | rfl | (simp; done) | (simp [*]; done)), H', ⟨Nat.le_refl _⟩, ⟨by repeat (first | (with_reducible first | exact HB.out | apply below_alloc | apply pw_below_drewN | apply below_drew1) | exact HB.out)⟩⟩
 case round =>
  clear H'
  try clear p2
  obtain ⟨x9_1, x10_1, rfl, rfl, HA, HK1, HB⟩ := hrel
  cases gk with
  | zero => exact absurd HA.out (by simp [impl_Pair_int64.l0])
  | succ k1 =>
   have H := HA.out
   clear HA
   simp only [impl_Pair_int64.l0] at H
   by_cases c4 : x9_1 < x10_1
   ·rw [if_pos c4] at H
    have c4b0 : decide (x9_1 < x10_1) = true := decide_eq_true c4
    clear c4
    obtain ⟨ji5, hji5⟩ : ∃ j_ : Int, (wrap64 ((IntKind.u64.wrap (wrap64 (x9_1 + x10_1))) / 2)) = j_ := ⟨_, rfl⟩
    replace H : (if 0 ≤ (ji5) then (if (ji5) < (l0.length : Int) then ((impl_Font_place_1.f ((rd_T28 l0 (ji5)).f0) ((rd_T28 l0 (ji5)).f1) a1).bind fun t219 => (if t219 < 0 then (impl_Pair_int64.l0 k1 l0 a1 (l0.length : Int) (wrap64 ((ji5) + 1)) x10_1) else (impl_Pair_int64.l0 k1 l0 a1 (l0.length : Int) x9_1 ji5))) else (none)) else (none)) = some (r1, r2) := by first | (rw [hji5] at H; exact H) | (simp only [hji5] at H ⊢; exact H)
    have hji5w : (IntKind.i64.wrap ((IntKind.u64.wrap (wrap64 (x9_1 + x10_1))) / 2)) = ji5 := (i64_w _).trans hji5
    by_cases c6 : 0 ≤ (ji5)
    ·rw [if_pos c6] at H
     have c6b0 : decide (0 ≤ (ji5)) = true := decide_eq_true c6
     clear c6
     by_cases c7 : (ji5) < (l0.length : Int)
     ·rw [if_pos c7] at H
      have c7b0 : decide ((ji5) < (l0.length : Int)) = true := decide_eq_true c7
      clear c7
      replace H := Option.bind_eq_some_iff.mp H
      obtain ⟨t219, A80, H⟩ := H
      replace H : (if t219 < 0 then (impl_Pair_int64.l0 k1 l0 a1 (l0.length : Int) (wrap64 ((ji5) + 1)) x10_1) else (impl_Pair_int64.l0 k1 l0 a1 (l0.length : Int) x9_1 ji5)) = some (r1, r2) := H
      have A8 := Aside0.mk A80
      clear A80
      by_cases c9 : t219 < 0
      ·rw [if_pos c9] at H
       have c9b0 : decide (t219 < 0) = true := decide_eq_true c9
       clear c9
       have H' := Aside0.mk H
       clear H
       have p218 : 0 ≤ ((ji5) : Int) := of_decide_eq_true (by first | (with_reducible assumption) | assumption)
       have q218 : (ji5) < (l0.length : Int) := of_decide_eq_true (by first | (with_reducible assumption) | assumption)
       obtain ⟨ad218, e218, hx218_0, hx218_1⟩ := at_T28 HR0.out (ji5) p218 q218
       cases e218
       replace hx218_0 := (HB.out.cell (World.block_lt_of_cell? w _ hx218_0)).trans hx218_0
       replace hx218_1 := (HB.out.cell (World.block_lt_of_cell? w _ hx218_1)).trans hx218_1
       replace p218 := eq_true p218
       replace q218 := eq_true q218
       go_wp2_with (first | (go_at_call 84; (with_reducible refine (impl_Font_place_1.calls ((rd_T28 l0 (ji5)).f0) ((rd_T28 l0 (ji5)).f1) a1 t219 _ A8.out).mono ?_); rintro e w10 ⟨rfl, hb⟩; have n0_ := Aside0.mk (below_step (by repeat (first | (with_reducible first | exact HB.out | apply below_alloc | apply pw_below_drewN | apply below_drew1) | exact HB.out)) hb); clear HB; have HB := n0_; clear n0_; (try clear hb); (try clear hb2); (try clear hk); (try clear hi)))
       go_roundg k1
       case measure => have := HK1.out; omega
       case rel => exact ⟨(wrap64 ((ji5) + 1)), (x10_1), (by first | rfl | (simp; done) | (simp only [← hji5] <;> (first | rfl | simp)) | (simp [*]; done)), (by first | rfl | (simp; done) | (simp [*]; done)), H', ⟨by have := HK1.out; omega⟩, ⟨by repeat (first | (with_reducible first | exact HB.out | apply below_alloc | apply pw_below_drewN | apply below_drew1) | exact HB.out)⟩⟩
      ·rw [if_neg c9] at H
       have c9b0 : decide (t219 < 0) = false := decide_eq_false c9
       clear c9
       have H' := Aside0.mk H
       clear H
       have p218 : 0 ≤ ((ji5) : Int) := of_decide_eq_true (by first | (with_reducible assumption) | assumption)
       have q218 : (ji5) < (l0.length : Int) := of_decide_eq_true (by first | (with_reducible assumption) | assumption)
       obtain ⟨ad218, e218, hx218_0, hx218_1⟩ := at_T28 HR0.out (ji5) p218 q218
       cases e218
       replace hx218_0 := (HB.out.cell (World.block_lt_of_cell? w _ hx218_0)).trans hx218_0
       replace hx218_1 := (HB.out.cell (World.block_lt_of_cell? w _ hx218_1)).trans hx218_1
       replace p218 := eq_true p218
       replace q218 := eq_true q218
       go_wp2_with (first | (go_at_call 84; (with_reducible refine (impl_Font_place_1.calls ((rd_T28 l0 (ji5)).f0) ((rd_T28 l0 (ji5)).f1) a1 t219 _ A8.out).mono ?_); rintro e w11 ⟨rfl, hb⟩; have n0_ := Aside0.mk (below_step (by repeat (first | (with_reducible first | exact HB.out | apply below_alloc | apply pw_below_drewN | apply below_drew1) | exact HB.out)) hb); clear HB; have HB := n0_; clear n0_; (try clear hb); (try clear hb2); (try clear hk); (try clear hi)))
       go_roundg k1
       case measure => have := HK1.out; omega
       case rel => exact ⟨(x9_1), (ji5), (by first | rfl | (simp; done) | (simp [*]; done)), (by first | rfl | (simp; done) | (simp only [← hji5] <;> (first | rfl | simp)) | (simp [*]; done)), H', ⟨by have := HK1.out; omega⟩, ⟨by repeat (first | (with_reducible first | exact HB.out | apply below_alloc | apply pw_below_drewN | apply below_drew1) | exact HB.out)⟩⟩
     ·rw [if_neg c7] at H
      exact absurd H (by simp)
    ·rw [if_neg c6] at H
     exact absurd H (by simp)
   ·rw [if_neg c4] at H
    have c4b0 : decide (x9_1 < x10_1) = false := decide_eq_false c4
    clear c4
    by_cases c12 : x9_1 < (l0.length : Int)
    ·rw [if_pos c12] at H
     have c12b0 : decide (x9_1 < (l0.length : Int)) = true := decide_eq_true c12
     clear c12
     by_cases c13 : 0 ≤ x9_1
     ·rw [if_pos c13] at H
      have c13b0 : decide (0 ≤ x9_1) = true := decide_eq_true c13
      clear c13
      by_cases c14 : x9_1 < (l0.length : Int)
      ·rw [if_pos c14] at H
       have c14b0 : decide (x9_1 < (l0.length : Int)) = true := decide_eq_true c14
       clear c14
       replace H := Option.bind_eq_some_iff.mp H
       obtain ⟨t221, A150, H⟩ := H
       replace H : (some (x9_1, (t221 == 0))) = some (r1, r2) := H
       have A15 := Aside0.mk A150
       clear A150
       simp only [Option.some.injEq, Prod.mk.injEq] at H
       obtain ⟨rfl, rfl⟩ := H
       have p220 : 0 ≤ (x9_1 : Int) := of_decide_eq_true (by first | (with_reducible assumption) | assumption)
       have q220 : x9_1 < (l0.length : Int) := of_decide_eq_true (by first | (with_reducible assumption) | assumption)
       obtain ⟨ad220, e220, hx220_0, hx220_1⟩ := at_T28 HR0.out x9_1 p220 q220
       cases e220
       replace hx220_0 := (HB.out.cell (World.block_lt_of_cell? w _ hx220_0)).trans hx220_0
       replace hx220_1 := (HB.out.cell (World.block_lt_of_cell? w _ hx220_1)).trans hx220_1
       replace p220 := eq_true p220
       replace q220 := eq_true q220
       go_wp2_with (first | (go_at_call 84; (with_reducible refine (impl_Font_place_1.calls ((rd_T28 l0 x9_1).f0) ((rd_T28 l0 x9_1).f1) a1 t221 _ A15.out).mono ?_); rintro e w16 ⟨rfl, hb⟩; have n0_ := Aside0.mk (below_step (by repeat (first | (with_reducible first | exact HB.out | apply below_alloc | apply pw_below_drewN | apply below_drew1) | exact HB.out)) hb); clear HB; have HB := n0_; clear n0_; (try clear hb); (try clear hb2); (try clear hk); (try clear hi)))
       go_ret2
       exact ⟨by first | rfl | (simp [errW_none, errW_some] <;> rfl) | (simp [*, errW_none, errW_some] <;> rfl), by repeat (first | (with_reducible first | exact HB.out | apply below_alloc | apply pw_below_drewN | apply below_drew1) | exact HB.out)⟩
      ·rw [if_neg c14] at H
       exact absurd H (by simp)
     ·rw [if_neg c13] at H
      exact absurd H (by simp)
    ·rw [if_neg c12] at H
     have c12b0 : decide (x9_1 < (l0.length : Int)) = false := decide_eq_false c12
     clear c12
     simp only [Option.some.injEq, Prod.mk.injEq] at H
     obtain ⟨rfl, rfl⟩ := H
     go_wp2
     go_ret2
     exact ⟨by first | rfl | (simp [errW_none, errW_some] <;> rfl) | (simp [*, errW_none, errW_some] <;> rfl), by repeat (first | (with_reducible first | exact HB.out | apply below_alloc | apply pw_below_drewN | apply below_drew1) | exact HB.out)⟩

/-! ### impl_Font_place: function 50 -/
def impl_Font_place.f (k : Nat) (a0_0 : Int) (l0_1 : List (S28)) (a1 : Int) : Option (Int × Bool) := (impl_Pair_int64.f k l0_1 a1).bind fun bt223 => (some (bt223.1, bt223.2))
theorem impl_Font_place.mono : ∀ a0 a1 a2 k, LeO (impl_Font_place.f k a0 a1 a2) (impl_Font_place.f (k + 1) a0 a1 a2) := by
 intro a0 a1 a2 k
 unfold impl_Font_place.f
 repeat' first
   | (with_reducible exact impl_Pair_int64.mono _ _ _)
   | (with_reducible exact LeO.refl _)
   | (with_reducible exact LeO.none _)
   | (with_reducible refine LeO.ite ?_ ?_)
   | (with_reducible refine LeO.bind ?_ (fun _ => ?_))
   | exact impl_Pair_int64.mono _ _ _
   | exact LeO.none _
   | refine LeO.ite ?_ ?_
   | refine LeO.bind ?_ (fun _ => ?_)
set_option maxHeartbeats 8000000 in
set_option maxRecDepth 100000 in
theorem impl_Font_place.calls (k : Nat) (a0_0 : Int) (A0_1 : Option Addr) (c0_1 : Nat) (l0_1 : List (S28)) (a1 : Int) (r1 : Int) (r2 : Bool) (w : World) (hr0_1 : Kd.C k28 w A0_1 l0_1.length l0_1) (hc0_1 : l0_1.length ≤ c0_1) (h : impl_Font_place.f k a0_0 l0_1 a1 = some (r1, r2)) :
  Calls Try.prog 50 #[.agg #[.int .i64 a0_0, .slice A0_1 l0_1.length c0_1], .int .i64 a1] w fun e w' => e = .returned (.tuple #[.int .i64 r1, .bool r2]) ∧ Below w.heap.size w w' := by
 have hu26 := Try.underlying26
 have HR0_1 := Aside0.mk hr0_1
 have HC0_1 := Aside0.mk hc0_1
 clear hr0_1 hc0_1
 have HB := Aside0.mk (Below.refl w.heap.size w)
 have H : ((impl_Pair_int64.f k l0_1 a1).bind fun bt223 => (some (bt223.1, bt223.2))) = some (r1, r2) := h
 clear h
 replace H := Option.bind_eq_some_iff.mp H
 obtain ⟨⟨t223, t224⟩, A30, H⟩ := H
 replace H : (some (t223, t224)) = some (r1, r2) := H
 have A3 := Aside0.mk A30
 clear A30
 simp only [Option.some.injEq, Prod.mk.injEq] at H
 obtain ⟨rfl, rfl⟩ := H
 go_enter Try.func50, Try.ntmps50
 go_wp2_with (first | ((with_reducible refine gate_dst (N := 2) rfl ?_); refine box_event ?hg (N := 2) ?hd (cs := #[.int .i64 a0_0, .slice A0_1 l0_1.length c0_1]) (t := 26) ?hr ?_; (case hd => rfl); (case hg => rfl); (case hr => first | (go_simp; done) | (go_simp; rfl)); intro gb222 hg w4 hbox hb; have n0_ := Aside0.mk (below_step (by repeat (first | (with_reducible first | exact HB.out | apply below_alloc | apply pw_below_drewN | apply below_drew1) | exact HB.out)) hb); have n1_ := Aside0.mk (hbox); have n2_ := Aside0.mk ((by rw [hg]; exact (below_size (by repeat (first | (with_reducible first | exact HB.out | apply below_alloc | apply pw_below_drewN | apply below_drew1) | exact HB.out))) : w.heap.size ≤ gb222)); have n3_ := Aside0.mk ((by rw [hg]; exact (below_size (by repeat (first | (with_reducible first | exact HB.out | apply below_alloc | apply pw_below_drewN | apply below_drew1) | exact HB.out))) : w.heap.size ≤ gb222)); clear HB; have HB := n0_; have BK222 := n1_; have GW222 := n2_; have GE222 := n3_; clear n0_ n1_ n2_ n3_; clear hb hbox hg; have hcz5_0 : w4.cell? ⟨gb222, 0, none⟩ = some (.int .i64 a0_0) := (blk_cell BK222.out 0).trans rfl; have hcz5_1 : w4.cell? ⟨gb222, 1, none⟩ = some (.slice A0_1 l0_1.length c0_1) := (blk_cell BK222.out 1).trans rfl; have hfz5_0 := blk_frozen BK222.out 0; have hfz5_1 := blk_frozen BK222.out 1) | ((with_reducible refine gate_callee (f := 83) rfl ?_); refine goesL_ (some 9) rfl rfl Try.func83 (by kernel_rfl) rfl #[.slice A0_1 l0_1.length c0_1, .int .i64 a1, .func (.func 84) #[] #[]] rfl (by (try simp only [List.map_toArray, List.map_cons, List.map_nil]); first | done | rfl | (simp only [List.length_drop, List.length_take]; rfl)) ?_; (with_reducible refine (impl_Pair_int64.calls k _ _ l0_1 a1  t223 t224 _ ?side1 ?side2 A3.out).mono ?_); (case side1 => repeat (first | exact (Kd.C_below HR0_1.out HB.out) | (with_reducible refine Kd.C_alloc ?_ _) | (with_reducible refine Kd.C_drewN ?_ _) | (with_reducible refine Kd.C_drew ?_))); (case side2 => exact HC0_1.out); rintro e w6 ⟨rfl, hb⟩; refine ⟨_, rfl, ?_⟩; have n0_ := Aside0.mk (blkb hb BK222.out); have n1_ := Aside0.mk (below_step (by repeat (first | (with_reducible first | exact HB.out | apply below_alloc | apply pw_below_drewN | apply below_drew1 | refine below_set ?_ GE222.out) | exact HB.out)) hb); clear BK222; clear HB; have BK222 := n0_; have HB := n1_; clear n0_ n1_; (try clear hb); (try clear hb2); (try clear hk); (try clear hi)))
 go_ret2
 exact ⟨by first | rfl | (simp [errW_none, errW_some] <;> rfl) | (simp [*, errW_none, errW_some] <;> rfl), by repeat (first | (with_reducible first | exact HB.out | apply below_alloc | apply pw_below_drewN | apply below_drew1 | refine below_set ?_ GE222.out) | exact HB.out)⟩

-- NOT PRINTED: function 85 (impl_Pair_85)

/-! ### impl_Pair_51: function 51 -/
def impl_Pair_51.f (l0 : List (S28)) (a1 : Int) (l2 : List (S28)) : Option ((List (S28))) := if l2.length = 1 then (if 0 ≤ a1 then (if a1 ≤ (l0.length : Int) then (if l0.length < 1000000000 then (some (l0.take a1.toNat ++ l2 ++ l0.drop a1.toNat)) else (none)) else (none)) else (none)) else (none)
def enc28 (x : S28) : List Value := [.int .i64 x.f0, .int .i64 x.f1]
theorem flat28 : Flat k28 enc28 := ⟨fun _ => rfl, fun x v hv => by
  simp [enc28] at hv
  rcases hv with rfl | rfl <;> rfl, fun w base ok x cs => ⟨fun h => k28_openM h, fun h => h ▸ k28_mkM w base ok x⟩, fun w x cs => ⟨fun h => k28_open h, fun h => h ▸ k28_mk w x⟩⟩
set_option maxHeartbeats 2000000 in
set_option maxRecDepth 100000 in
theorem impl_Pair_51.calls (P0_ : Nat → Prop) (u9000_ : Value) (l0 : List (S28)) (a1 : Int) (A2 : Option Addr) (c2 : Nat) (l2 : List (S28)) (r : List (S28)) (w0 w : World) (hB : Below w0.heap.size w0 w) (ho0 : Kd.R k28 28 w w0.heap.size P0_ u9000_ l0) (hr2 : ∀ W_, Kept w W_ (fun k_ => P0_ k_) → Kd.C k28 W_ A2 l2.length l2) (hv2 : ∃ (b2 : Nat) (ok2 : Nat → Prop), Kd.R k28 28 w b2 ok2 (.slice A2 l2.length c2) l2 ∧ ∀ k_, ok2 k_ → ¬ P0_ k_) (hc2 : l2.length ≤ c2) (h : impl_Pair_51.f l0 a1 l2 = some r) :
  Calls Try.prog 51 #[u9000_, .int .i64 a1, .slice A2 l2.length c2] w fun e w' => ∃ v0_ : Value, e = .returned (v0_) ∧ Kd.R k28 28 w' w0.heap.size (fun k_ => (P0_ k_ ∨ w.heap.size ≤ k_)) v0_ r ∧ Below w0.heap.size w0 w' ∧ Kept w w' (fun k_ => P0_ k_) := by
 unfold impl_Pair_51.f at h
 by_cases q1 : l2.length = 1
 ·rw [if_pos q1] at h
  by_cases q2 : 0 ≤ a1
  ·rw [if_pos q2] at h
   by_cases q3 : a1 ≤ (l0.length : Int)
   ·rw [if_pos q3] at h
    by_cases q4 : l0.length < 1000000000
    ·rw [if_pos q4] at h
     obtain rfl := Option.some.inj h
     clear h
     obtain ⟨i, rfl⟩ := Int.eq_ofNat_of_zero_le q2
     rw [Int.toNat_natCast]
     obtain ⟨p, rfl⟩ := List.length_eq_one_iff.1 q1
     obtain ⟨i3, hi3, hz3, hsz3, hby3⟩ := info_parts info28
     have hl1 : (([p] : List S28).length : Int) = 1 := rfl
     by_cases q5 : i = l0.length
     ·subst q5
      have e0 : l0.take l0.length ++ [p] ++ l0.drop l0.length = l0 ++ [p] := by simp
      rw [e0]
      obtain ⟨A0, c0, eu⟩ := Kd.R_slice ho0
      subst eu
      have HO0 := Aside0.mk (show Kd.R k28 28 w w0.heap.size (fun k_ => (P0_ k_ ∨ w.heap.size ≤ k_)) (.slice A0 l0.length c0) l0 from Kd.R_mono ho0 (fun k_ hk => (.inl hk)))
      have HR2 := Aside0.mk hr2
      have HK := Aside0.mk (Kept.refl w (fun k_ => P0_ k_))
      have HW0 := Aside0.mk hB.size
      have HB := Aside0.mk hB
      have LM := Aside0.mk (show l0.length + ([p] : List S28).length < 2000000000 by simp; omega)
      obtain ⟨v9, hv9⟩ : ∃ v9 : Value, ∀ W : World, (Instr.slice 24 (.slice A0 l0.length c0) (some (.int .i64 (l0.length : Int))) none none).run Try.prog W = .ok v9 W := ⟨_, cut_from 24 28 .i64 Try.underlying24 hi3 2 hsz3 A0 l0.length c0 (l0.length : Int) (by omega) (by omega)⟩
      obtain ⟨y, hy⟩ : ∃ y : List (S28), y = l0 ++ [p] := ⟨_, rfl⟩
      rw [← hy]
      have Ny := Aside0.mk hy
      change Calls Try.prog 51 #[.slice A0 l0.length c0, .int .i64 (l0.length : Int), .slice A2 1 c2] w _
      clear hB ho0 hr2 hv2 hc2 q1 q2 q3 q4 hi3 hz3 hsz3 hby3 e0 hl1 hy
      go_enter Try.func51, Try.ntmps51
      go_wp2_with (first | ((with_reducible refine gate_builtin (b := .append) (xs := #[.tmp 23, .tmp 24]) rfl ?_); at_builtin; refine Kd.R_append_rows k28 (w0 := w0) w0.heap.size rfl (.tmp 23) (.tmp 24) 24 28 (.agg #[(.int .i64 0), (.int .i64 0)]) 16 rfl Try.underlying24 info28 rfl (by decide) (by omega) (.slice A0 l0.length c0) l0 [p] _ _ _ (fun k_ => (P0_ k_ ∨ w.heap.size ≤ k_)) (fun _ => False) rfl rfl ?aO ?aR (fun _ _ h => h) (fun _ h => h.elim) ?aF ?aB ?aS ?aL ?_; (case aR => exact Kd.C_kept_now HR2.out HK.out); (case aB => exact HB.out); (case aF => exact (fun k_ hk => (.inr (Nat.le_trans HK.out.1 hk)))); (case aO => exact HO0.out); (case aS => exact (below_size HB.out)); (case aL => have := LM.out; omega); intro v153 w5 ho hb hg hat; rw [← Ny.out] at ho; have n0_ := Aside0.mk (hb); have n1_ := Aside0.mk (Kept.of_grown (S := (fun k_ => P0_ k_)) hg HK.out (fun k_ e_ => (HO0.out.1 k_ e_))); have n2_ := Aside0.mk (ho); clear HB; clear HK; clear HO0; have HB := n0_; have HK := n1_; have HO154 := n2_; clear n0_ n1_ n2_; clear ho hb hg hat))
      go_ret
      exact ⟨_, rfl, HO154.out, HB.out, HK.out⟩
     ·have hin : i < l0.length := by omega
      obtain ⟨g, cap, eu, _⟩ := Kd.R_form ho0 (by omega)
      subst eu
      obtain ⟨_, hcap, hmax, hbg, hPg, cur, hcu, hcs, hct⟩ := flat28.open_ ho0
      obtain ⟨b2, ok2, hv, hvn⟩ := hv2
      obtain ⟨gv, cv, ev, _⟩ := Kd.R_form hv (by simp)
      injection ev with ev1 ev2 ev3
      subst ev1 ev3
      obtain ⟨_, hcapv, hmaxv, _, hokv, curv, hcuv, hcsv, hctv⟩ := flat28.open_ hv
      have hne : gv ≠ g := fun e => hvn gv hokv (e ▸ hPg)
      have hs2 : k28.sz = 2 := rfl
      rw [hs2] at hcs hct hcsv hctv
      obtain ⟨A, hA⟩ : ∃ A, A = (l0.take i).flatMap enc28 := ⟨_, rfl⟩
      obtain ⟨B, hB_⟩ : ∃ B, B = (l0.drop i).flatMap enc28 := ⟨_, rfl⟩
      obtain ⟨V, hV⟩ : ∃ V, V = enc28 p := ⟨_, rfl⟩
      have hAl : A.length = i * 2 := by rw [hA, flat28.flen, hs2, List.length_take, Nat.min_eq_left (by omega)]
      have hBl : B.length = (l0.length - i) * 2 := by rw [hB_, flat28.flen, hs2, List.length_drop]
      have hVl : V.length = 2 := by rw [hV]; rfl
      have hB1 : ∀ v ∈ B, v.oneCell' = true := by rw [hB_]; exact flat28.fone _
      have hV1 : ∀ v ∈ V, v.oneCell' = true := by rw [hV]; exact flat28.one p
      have hct' : cur.toList.take (i * 2 + (l0.length - i) * 2) = A ++ B := by
       have e1 : i * 2 + (l0.length - i) * 2 = l0.length * 2 := by omega
       rw [e1, hct, hA, hB_, ← List.flatMap_append, List.take_append_drop]
      have hctA : cur.toList.take (i * 2) = A := by
       have := congrArg (List.take (i * 2)) hct'
       rwa [List.take_take, Nat.min_eq_left (by omega), List.take_left' hAl] at this
      have hctv' : curv.toList.take 2 = V := by
       have e1 : ([p] : List S28).length * 2 = 2 := rfl
       rw [e1] at hctv
       rw [hctv, hV]
       simp [List.flatMap_cons]
      have hres : (l0.take i ++ [p] ++ l0.drop i).flatMap enc28 = A ++ V ++ B := by
       rw [List.flatMap_append, List.flatMap_append, hA, hB_, hV]
       simp [List.flatMap_cons]
      have hrl : (l0.take i ++ [p] ++ l0.drop i).length = l0.length + 1 := by
       simp
       omega
      have hsz : (Try.prog.info? 28).map (·.size) = some 2 := by rw [hi3]; simp [hsz3]
      have hsf : ∀ W : World, (sizeOf 28).run Try.prog W = .ok 2 W := fun W => by simp [sizeOf, typeInfo, hi3, hsz3]
      have hw1 : IntKind.i64.wrap ((i : Int) + 1) = (i : Int) + 1 := by rw [IntKind.wrap_i64]; omega
      have hw2 : IntKind.i64.wrap ((l0.length : Int) + 1) = (l0.length : Int) + 1 := by rw [IntKind.wrap_i64]; omega
      have hni : ((i : Int) == (l0.length : Int)) = false := beq_eq_false_iff_ne.mpr (by omega)
      have HB := Aside0.mk hB
      have hc1 := cut_from_some (P := Try.prog) 24 28 .i64 Try.underlying24 hi3 2 hsz3 g 0 l0.length cap i (i : Int) rfl (by omega) (by omega)
      have hX : (A ++ B)[i * 2]? = B[0]? := by rw [List.getElem?_append_right (by omega), hAl, Nat.sub_self]
      have hsrcB : ∀ (W : World), W.heap[g]? = w.heap[g]? → ∀ j v, B[j]? = some v → W.cell? ((⟨g, i * 2, none⟩ : Addr).add j) = some v := fun W hW j v hj => by
       rw [Addr.add_lit]
       refine cell_of (hW.trans hcu) hct' ?_
       rw [List.getElem?_append_right (by omega), hAl, Nat.add_sub_cancel_left]
       exact hj
      have hsrcV : ∀ (W : World), W.heap[gv]? = w.heap[gv]? → ∀ j v, V[j]? = some v → W.cell? ((⟨gv, 0, none⟩ : Addr).add j) = some v := fun W hW j v hj => by
       rw [Addr.add_lit, Nat.zero_add]
       exact cell_of (hW.trans hcuv) hctv' hj
      by_cases q6 : l0.length + 1 ≤ cap
      ·have hgt : decide ((cap : Int) < (l0.length : Int) + 1) = false := decide_eq_false (by omega)
       have hov : ∀ lb cb, (callFunc 85 #[.slice (some ⟨gv, 0, none⟩) 1 c2, .slice (some ⟨g, (i + 1) * 2, none⟩) lb cb]).run Try.prog w = .ok (.value (.bool false)) w := fun lb cb => by
        rw [run_callFunc_extern Try.func85 (by kernel_rfl) (by kernel_rfl) (by kernel_rfl) (e := Extern.SlicesOverlaps.overlaps #[24, 24] #[4]) (by kernel_rfl),
         Lib.run_overlaps_apart w 24 4 28 Try.underlying24 2 hsf ⟨gv, 0, none⟩ ⟨g, (i + 1) * 2, none⟩ 1 c2 lb cb hne 28 28 curv.size cur.size (shape_of hcuv) (shape_of hcu) (by omega) (blk_frozen hcuv _) (blk_frozen hcuv _)]
        rfl
       have hc2 := cut_cap_to (P := Try.prog) 24 28 .i64 Try.underlying24 hi3 (some ⟨g, 0, none⟩) l0.length cap ((l0.length : Int) + 1) (l0.length + 1) (by omega) (by omega)
       have hc3 := cut_from_some (P := Try.prog) 24 28 .i64 Try.underlying24 hi3 2 hsz3 g 0 (l0.length + 1) cap (i + 1) ((i : Int) + 1) (by omega) (by omega) (by omega)
       have hc4 := cut_from_some (P := Try.prog) 24 28 .i64 Try.underlying24 hi3 2 hsz3 g 0 (l0.length + 1) cap i (i : Int) rfl (by omega) (by omega)
       simp only [Nat.zero_add] at hc1 hc3 hc4
       obtain ⟨W1, hW1⟩ : ∃ W1, W1 = w.drew.setCells g ((i + 1) * 2) B := ⟨_, rfl⟩
       obtain ⟨W2, hW2⟩ : ∃ W2, W2 = W1.setCells g (i * 2) V := ⟨_, rfl⟩
       have hk1 : W1.heap[g]? = some (.cells (over cur ((i + 1) * 2) B) 28 (0, 0)) := by rw [hW1]; exact heap_over _ _ _ _ hcu
       have hk2 : W2.heap[g]? = some (.cells (over (over cur ((i + 1) * 2) B) (i * 2) V) 28 (0, 0)) := by rw [hW2]; exact heap_over _ _ _ _ hk1
       have hm1 : Nat.min (l0.length + 1 - i) (l0.length + 1 - (i + 1)) = l0.length - i := by simp only [Nat.min_def]; split <;> omega
       have hm2 : Nat.min 1 (l0.length + 1 - i) = 1 := by simp only [Nat.min_def]; split <;> omega
       have hcp1 : ∀ ty, (Builtin.copy_ #[24, 24] ty #[.slice (some ⟨g, (i + 1) * 2, none⟩) (l0.length + 1 - (i + 1)) (cap - (i + 1)), .slice (some ⟨g, i * 2, none⟩) (l0.length + 1 - i) (cap - i)]).run Try.prog w.drew = .ok (goInt ((l0.length - i : Nat) : Int)) W1 := fun ty => by
        have := run_copy (P := Try.prog) w.drew 24 24 ty 28 2 g ((i + 1) * 2) (l0.length + 1 - (i + 1)) (cap - (i + 1)) ⟨g, i * 2, none⟩ (l0.length + 1 - i) (cap - i) B Try.underlying24 hsz (by rw [hBl, hm1]) (hsrcB w.drew rfl) (fun j hj => some_of (w := w.drew) (e := 28) hcu (by rw [hBl] at hj; omega)) (fun j hj => blk_frozen (w := w.drew) hcu _) hB1
        rw [hm1, ← hW1] at this
        exact this
       have hcp2 : ∀ ty, (Builtin.copy_ #[24, 24] ty #[.slice (some ⟨g, i * 2, none⟩) (l0.length + 1 - i) (cap - i), .slice (some ⟨gv, 0, none⟩) 1 c2]).run Try.prog W1 = .ok (goInt 1) W2 := fun ty => by
        have := run_copy (P := Try.prog) W1 24 24 ty 28 2 g (i * 2) (l0.length + 1 - i) (cap - i) ⟨gv, 0, none⟩ 1 c2 V Try.underlying24 hsz (by rw [hVl, hm2]) (hsrcV W1 (by rw [hW1]; exact heap_other gv hne _ _ _)) (fun j hj => some_of hk1 (by rw [hVl] at hj; rw [over_size]; omega)) (fun j hj => blk_frozen hk1 _) hV1
        rw [hm2, ← hW2] at this
        exact this
       have hfin : Kd.R k28 28 W2 w0.heap.size (fun k_ => (P0_ k_ ∨ w.heap.size ≤ k_)) (.slice (some ⟨g, 0, none⟩) (l0.length + 1) cap) (l0.take i ++ [p] ++ l0.drop i) := by
        have := flat28.mk_ (w := W2) (e := 28) (g := g) (c := cap) (base := w0.heap.size) (ok := fun k_ => (P0_ k_ ∨ w.heap.size ≤ k_)) (xs := l0.take i ++ [p] ++ l0.drop i) (.inl hPg) hbg (by omega) hmax hk2 (by rw [over_size, over_size]; exact hcs) (by
         rw [hres, hrl, hs2]
         have h5 := over_insert (cur := cur) hAl hVl hBl hct' (by omega)
         have e1 : i * 2 + 2 = (i + 1) * 2 := by omega
         have e2 : (i + 1) * 2 + (l0.length - i) * 2 = (l0.length + 1) * 2 := by omega
         rw [e1, e2] at h5
         exact h5)
        rw [hrl] at this
        exact this
       have hbel : Below w0.heap.size w0 W2 := by rw [hW2, hW1]; exact below_over hbg _ _ _ (below_over hbg _ _ _ (below_drew1 hB))
       have hkep : Kept w W2 (fun k_ => P0_ k_) := by rw [hW2, hW1]; exact kept_over (.inl hPg) _ _ _ (kept_over (.inl hPg) _ _ _ (Kept.drew (Kept.refl w _)))
       have HF := Aside0.mk hfin
       have HL := Aside0.mk hbel
       have HK := Aside0.mk hkep
       change Calls Try.prog 51 #[.slice (some ⟨g, 0, none⟩) l0.length cap, .int .i64 (i : Int), .slice (some ⟨gv, 0, none⟩) 1 c2] w _
       clear hfin hbel hkep hk1 hk2 hm1 hm2 hW1 hW2 hB ho0 hr2 hv hvn hcu hcuv hct hct' hctA hctv hctv' hres hrl hsf hsz hsrcB hsrcV hcs hcsv hA hB_ hV hAl hBl hVl hB1 hV1 hX hi3 hz3 hsz3 hby3 hbg hPg hokv hcapv hmaxv q1 q2 q3 hl1
       go_enter Try.func51, Try.ntmps51
       go_wp2_with (simp only [hov])
       go_region_law (refine ins_step_copy rfl _ _ 24 24 rfl _ _ (by simp [Act.eval, Act.put]) (by simp [Act.eval, Act.put]) (hcp1 _) ?_)
       go_wp2_with (at_builtin; refine ins_list_copy rfl _ _ 24 24 rfl _ _ rfl rfl (hcp2 _) ?_)
       go_ret
       exact ⟨_, rfl, HF.out, HL.out, HK.out⟩
      ·have hroom : cap < l0.length + 1 := by omega
       have hgt : decide ((cap : Int) < (l0.length : Int) + 1) = true := decide_eq_true (by omega)
       have hw3 : IntKind.i64.wrap ((l0.length : Int) + 1 - (i : Int)) = (l0.length : Int) + 1 - (i : Int) := by rw [IntKind.wrap_i64]; omega
       have hk9 : (l0.length : Int) + 1 - (i : Int) = ((l0.length + 1 - i : Nat) : Int) := by omega
       have hik : i + (l0.length + 1 - i) = l0.length + 1 := by omega
       have hc0 := cut_to (P := Try.prog) 24 28 .i64 Try.underlying24 hi3 (some ⟨g, 0, none⟩) l0.length cap (i : Int) (by omega) (by omega) hcap
       simp only [Int.toNat_natCast] at hc0
       have hold : (Builtin.firstCells i3.size i (.slice (some ⟨g, 0, none⟩) i cap)).run Try.prog w.drew = .ok A.toArray w.drew := by
        rw [hsz3]
        exact run_firstCells_some w.drew 2 i ⟨g, 0, none⟩ i cap A hAl (fun j v hj => by
         rw [Addr.add_lit, Nat.zero_add]
         exact cell_of (w := w.drew) hcu hctA hj)
       have hrz : ∀ ty, (Builtin.append_ #[24, 3] ty #[.slice (some ⟨g, 0, none⟩) i cap, .int .i64 ((l0.length : Int) + 1 - (i : Int))]).run Try.prog w = .ok (.slice (some ⟨w.heap.size, 0, none⟩) (l0.length + 1) (grownCap w (l0.length + 1) cap 28)) (w.drew.alloc (.cells (A.toArray ++ Builtin.zeroCells (.agg #[(.int .i64 0), (.int .i64 0)] : Value).cells (l0.length + 1 - i) ++ Builtin.zeroCells (.agg #[(.int .i64 0), (.int .i64 0)] : Value).cells (grownCap w (l0.length + 1) cap 28 - (l0.length + 1))) 28)) := fun ty => by
        have h := Lib.run_append_grow_zeros w 24 3 ty 28 i3 (.agg #[(.int .i64 0), (.int .i64 0)]) .i64 .i64 Try.underlying24 Try.underlying3 hi3 hz3 (some ⟨g, 0, none⟩) i cap A hold (l0.length + 1 - i) (by omega) (by omega) (by omega) (by omega) (by rw [hby3]; omega) (by rw [hby3, hik]; exact growslice_fits hroom (by omega))
        rw [hik] at h
        rw [hk9]
        exact h
       have hGn : l0.length + 1 ≤ grownCap w (l0.length + 1) cap 28 := grownCap_ge w _ _ _
       have hGm : grownCap w (l0.length + 1) cap 28 ≤ maxLen := grownCap_le_maxLen w (l0.length + 1) cap 28 (by unfold maxLen; omega)
       generalize grownCap w (l0.length + 1) cap 28 = G at hrz hGn hGm
       obtain ⟨ROW, hROW⟩ : ∃ ROW : Array Value, ROW = A.toArray ++ Builtin.zeroCells (.agg #[(.int .i64 0), (.int .i64 0)] : Value).cells (l0.length + 1 - i) ++ Builtin.zeroCells (.agg #[(.int .i64 0), (.int .i64 0)] : Value).cells (G - (l0.length + 1)) := ⟨_, rfl⟩
       rw [← hROW] at hrz
       have hRs : ROW.size = G * 2 := by
        rw [hROW]
        simp [Builtin.zeroCells, Value.cells, hAl]
        omega
       have hRt : ROW.toList.take (i * 2) = A := by
        rw [hROW]
        simp only [Array.toList_append, List.append_assoc]
        exact List.take_left' hAl
       obtain ⟨W1, hW1⟩ : ∃ W1, W1 = w.drew.alloc (.cells ROW 28) := ⟨_, rfl⟩
       rw [← hW1] at hrz
       have hgw : g < w.heap.size := blk_lt hcu
       have hgvw : gv < w.heap.size := blk_lt hcuv
       have hk1 : W1.heap[w.heap.size]? = some (.cells ROW 28 (0, 0)) := by
        rw [hW1]
        show (w.heap.push _)[w.heap.size]? = _
        exact Array.getElem?_push_size
       have hg1 : ∀ k, k < w.heap.size → W1.heap[k]? = w.heap[k]? := fun k hk => by
        rw [hW1]
        show (w.heap.push _)[k]? = _
        rw [Array.getElem?_push, if_neg (by omega)]
       obtain ⟨W2, hW2⟩ : ∃ W2, W2 = W1.setCells w.heap.size (i * 2) V := ⟨_, rfl⟩
       have hk2 : W2.heap[w.heap.size]? = some (.cells (over ROW (i * 2) V) 28 (0, 0)) := by rw [hW2]; exact heap_over _ _ _ _ hk1
       have hg2 : ∀ k, k < w.heap.size → W2.heap[k]? = w.heap[k]? := fun k hk => by rw [hW2]; exact (heap_other k (by omega) _ _ _).trans (hg1 k hk)
       obtain ⟨W3, hW3⟩ : ∃ W3, W3 = W2.drew.setCells w.heap.size ((i + 1) * 2) B := ⟨_, rfl⟩
       have hk3 : W3.heap[w.heap.size]? = some (.cells (over (over ROW (i * 2) V) ((i + 1) * 2) B) 28 (0, 0)) := by rw [hW3]; exact heap_over _ _ _ _ hk2
       have hc5 := cut_from_some (P := Try.prog) 24 28 .i64 Try.underlying24 hi3 2 hsz3 w.heap.size 0 (l0.length + 1) G i (i : Int) rfl (by omega) (by omega)
       have hc6 := cut_from_some (P := Try.prog) 24 28 .i64 Try.underlying24 hi3 2 hsz3 w.heap.size 0 (l0.length + 1) G (i + 1) ((i : Int) + 1) (by omega) (by omega) (by omega)
       simp only [Nat.zero_add] at hc1 hc5 hc6
       have hm1 : Nat.min 1 (l0.length + 1 - i) = 1 := by simp only [Nat.min_def]; split <;> omega
       have hm2 : Nat.min (l0.length - i) (l0.length + 1 - (i + 1)) = l0.length - i := by simp only [Nat.min_def]; split <;> omega
       have hcp1 : ∀ ty, (Builtin.copy_ #[24, 24] ty #[.slice (some ⟨w.heap.size, i * 2, none⟩) (l0.length + 1 - i) (G - i), .slice (some ⟨gv, 0, none⟩) 1 c2]).run Try.prog W1 = .ok (goInt 1) W2 := fun ty => by
        have := run_copy (P := Try.prog) W1 24 24 ty 28 2 w.heap.size (i * 2) (l0.length + 1 - i) (G - i) ⟨gv, 0, none⟩ 1 c2 V Try.underlying24 hsz (by rw [hVl, hm1]) (hsrcV W1 (hg1 gv hgvw)) (fun j hj => some_of hk1 (by rw [hVl] at hj; omega)) (fun j hj => blk_frozen hk1 _) hV1
        rw [hm1, ← hW2] at this
        exact this
       have hcp2 : ∀ ty, (Builtin.copy_ #[24, 24] ty #[.slice (some ⟨w.heap.size, (i + 1) * 2, none⟩) (l0.length + 1 - (i + 1)) (G - (i + 1)), .slice (some ⟨g, i * 2, none⟩) (l0.length - i) (cap - i)]).run Try.prog W2.drew = .ok (goInt ((l0.length - i : Nat) : Int)) W3 := fun ty => by
        have := run_copy (P := Try.prog) W2.drew 24 24 ty 28 2 w.heap.size ((i + 1) * 2) (l0.length + 1 - (i + 1)) (G - (i + 1)) ⟨g, i * 2, none⟩ (l0.length - i) (cap - i) B Try.underlying24 hsz (by rw [hBl, hm2]) (hsrcB W2.drew (hg2 g hgw)) (fun j hj => some_of (w := W2.drew) (e := 28) hk2 (by rw [hBl] at hj; rw [over_size]; omega)) (fun j hj => blk_frozen (w := W2.drew) hk2 _) hB1
        rw [hm2, ← hW3] at this
        exact this
       have hfin : Kd.R k28 28 W3 w0.heap.size (fun k_ => (P0_ k_ ∨ w.heap.size ≤ k_)) (.slice (some ⟨w.heap.size, 0, none⟩) (l0.length + 1) G) (l0.take i ++ [p] ++ l0.drop i) := by
        have := flat28.mk_ (w := W3) (e := 28) (g := w.heap.size) (c := G) (base := w0.heap.size) (ok := fun k_ => (P0_ k_ ∨ w.heap.size ≤ k_)) (xs := l0.take i ++ [p] ++ l0.drop i) (.inr (Nat.le_refl _)) hB.size (by omega) hGm hk3 (by rw [over_size, over_size]; exact hRs) (by
         rw [hres, hrl, hs2]
         have h5 := over_end (cur := ROW) hAl hVl hRt (by omega)
         have e1 : i * 2 + 2 = (i + 1) * 2 := by omega
         have e2 : (i + 1) * 2 + (l0.length - i) * 2 = (l0.length + 1) * 2 := by omega
         rw [e1] at h5
         have h6 := over_end (cur := over ROW (i * 2) V) (A := A ++ V) (V := B) (p := (i + 1) * 2) (by rw [List.length_append, hAl, hVl]; omega) hBl h5 (by rw [over_size]; omega)
         rw [e2] at h6
         exact h6)
        rw [hrl] at this
        exact this
       have hbel : Below w0.heap.size w0 W3 := by rw [hW3, hW2, hW1]; exact below_over hB.size _ _ _ (below_drew1 (below_over hB.size _ _ _ (below_alloc (below_drew1 hB) _)))
       have hkep : Kept w W3 (fun k_ => P0_ k_) := by rw [hW3, hW2, hW1]; exact kept_over (.inr (Nat.le_refl _)) _ _ _ (Kept.drew (kept_over (.inr (Nat.le_refl _)) _ _ _ (Kept.alloc (Kept.drew (Kept.refl w _)) _)))
       have HF := Aside0.mk hfin
       have HL := Aside0.mk hbel
       have HK := Aside0.mk hkep
       change Calls Try.prog 51 #[.slice (some ⟨g, 0, none⟩) l0.length cap, .int .i64 (i : Int), .slice (some ⟨gv, 0, none⟩) 1 c2] w _
       clear hfin hbel hkep hk1 hk2 hk3 hg1 hg2 hm1 hm2 hW1 hW2 hW3 hB ho0 hr2 hv hvn hcu hcuv hct hct' hctA hctv hctv' hres hrl hsf hsz hsrcB hsrcV hcs hcsv hA hB_ hV hAl hBl hVl hB1 hV1 hX hi3 hz3 hsz3 hby3 hbg hPg hokv hcapv hmaxv q1 q2 q3 hl1 hold hROW hRs hRt hgw hgvw hk9 hik
       go_enter Try.func51, Try.ntmps51
       go_wp2_with (first
        | (at_builtin; refine Lib.wpList_append_run _ rfl _ _ _ _ rfl _ _ rfl rfl _ _ (hrz _) ?_)
        | (at_builtin; refine ins_list_copy rfl _ _ 24 24 rfl _ _ rfl rfl (hcp1 _) ?_))
       go_region_law (refine ins_step_copy rfl _ _ 24 24 rfl _ _ (by simp [Act.eval, Act.put]) (by simp [Act.eval, Act.put]) (hcp2 _) ?_)
       go_wp2
       go_ret
       exact ⟨_, rfl, HF.out, HL.out, HK.out⟩
    ·rw [if_neg q4] at h
     cases h
   ·rw [if_neg q3] at h
    cases h
  ·rw [if_neg q2] at h
   cases h
 ·rw [if_neg q1] at h
  cases h

end Go.Proofs.Ytpoafgokngpglaa.PFnFonts
