-- Written for this claim by a program of this session's (wip/p2.sh).
import Derived.Test.YtpoafgokngpglaaDoorPFnWaysx0
import Derived.Test.YtpoafgokngpglaaDoorQfShort
import Derived.Test.YtpoafgokngpglaaDoorPFnWaysx2
import Derived.Test.YtpoafgokngpglaaDoorPFnWaysx6
import Derived.Test.YtpoafgokngpglaaDoorPFnWaysx8
import Derived.Test.YtpoafgokngpglaaDoorPw
namespace Go.Proofs.YtpoafgokngpglaaDoor.PFnWays
open Go.Proofs.YtpoafgokngpglaaDoorPw Go.RowKit Go.Proofs.YtpoafgokngpglaaDoorW.PrintWords Go.Proofs.YtpoafgokngpglaaDoorW.PrintLast Go.Proofs.YtpoafgokngpglaaDoorW.PrintMore Go.Proofs.YtpoafgokngpglaaDoorShort
attribute [local go_sem] max2_int min2_int max_two min_two max_three min_three max_four min_four   -- for this text's walks alone
set_option linter.unusedVariables false
set_option linter.unusedSimpArgs false

theorem far7 {w : World} {a : Addr} {g : Nat} {v : Value} {u0 u1 u2 u3 u4 u5 u6 : Value} (h : w.cell? a = some v) (hn : a.block ≠ g) : (((((((w.setCell ⟨g, 0, none⟩ u0).setCell ⟨g, 1, none⟩ u1).setCell ⟨g, 2, none⟩ u2).setCell ⟨g, 3, none⟩ u3).setCell ⟨g, 4, none⟩ u4).setCell ⟨g, 5, none⟩ u5).setCell ⟨g, 6, none⟩ u6).cell? a = some v := by
 rw [cell_far hn, cell_far hn, cell_far hn, cell_far hn, cell_far hn, cell_far hn, cell_far hn]
 exact h
/-! ### impl_ParseWay: function 24 -/
def impl_ParseWay.l0 : Nat → List Int → List ByteArray → Int → Int → Option (Int × Int × Int × Int × Int × Int × Int × Int)
 | 0, _, _, _, _ => none
 | k + 1, x3, x11, x12, x13 => if x13 < x12 then (if 0 ≤ x13 then (if x13 < (x11.length : Int) then ((impl_readNumber.f (rdOf ByteArray.empty x11 x13)).bind fun bt230 => (if bt230.2 = true then (if x3.length < 17592186044416 then (impl_ParseWay.l0 k (x3 ++ [bt230.1]) x11 x12 (wrap64 (x13 + 1))) else (none)) else (some (5, 0, 0, 0, 0, 0, 0, 0)))) else (none)) else (none)) else ((impl_Way_numbers.f 0 0 0 0 0 0 0).bind fun t235 => (if (x3.length : Int) = (t235.length : Int) then (if 0 < (x3.length : Int) then (if 1 < (x3.length : Int) then (if 2 < (x3.length : Int) then (if 3 < (x3.length : Int) then (if 4 < (x3.length : Int) then (if 5 < (x3.length : Int) then (if 6 < (x3.length : Int) then ((impl_WayFault.f k (rd x3 0) (rd x3 1) (rd x3 2) (rd x3 3) (rd x3 4) (rd x3 5) (rd x3 6)).bind fun t246 => (if t246 = 0 then (some (0, rd x3 0, rd x3 1, rd x3 2, rd x3 3, rd x3 4, rd x3 5, rd x3 6)) else (some (5, 0, 0, 0, 0, 0, 0, 0)))) else (none)) else (none)) else (none)) else (none)) else (none)) else (none)) else (none)) else (some (5, 0, 0, 0, 0, 0, 0, 0))))
def impl_ParseWay.f (k : Nat) (a0 : ByteArray) : Option (Int × Int × Int × Int × Int × Int × Int × Int) := (strings_Split.f a0 (⟨#[32]⟩ : ByteArray)).bind fun t226 => (impl_ParseWay.l0 k (([] : List Int)) t226 (t226.length : Int) 0)
theorem impl_ParseWay.mono_l : ∀ k, (∀ y0 y1 y2 y3, LeO (impl_ParseWay.l0 k y0 y1 y2 y3) (impl_ParseWay.l0 (k + 1) y0 y1 y2 y3))
 | 0 => fun _ _ _ _ r h => by simp [impl_ParseWay.l0] at h
 | k + 1 => by
  have ih0 := impl_ParseWay.mono_l k
  ·intro y0 y1 y2 y3
   unfold impl_ParseWay.l0
   repeat' first
   | (with_reducible exact ih0 _ _ _ _)
   | (with_reducible exact impl_WayFault.mono _ _ _ _ _ _ _ _)
   | (with_reducible exact LeO.refl _)
   | (with_reducible exact LeO.none _)
   | (with_reducible refine LeO.ite ?_ ?_)
   | (with_reducible refine LeO.bind ?_ (fun _ => ?_))
   | exact ih0 _ _ _ _
   | exact impl_WayFault.mono _ _ _ _ _ _ _ _
   | exact LeO.none _
   | refine LeO.ite ?_ ?_
   | refine LeO.bind ?_ (fun _ => ?_)
theorem impl_ParseWay.mono : ∀ a0 k, LeO (impl_ParseWay.f k a0) (impl_ParseWay.f (k + 1) a0) := by
 intro a0 k
 have ih0 := impl_ParseWay.mono_l k
 unfold impl_ParseWay.f
 repeat' first
   | (with_reducible exact ih0 _ _ _ _)
   | (with_reducible exact impl_WayFault.mono _ _ _ _ _ _ _ _)
   | (with_reducible exact LeO.refl _)
   | (with_reducible exact LeO.none _)
   | (with_reducible refine LeO.ite ?_ ?_)
   | (with_reducible refine LeO.bind ?_ (fun _ => ?_))
   | exact ih0 _ _ _ _
   | exact impl_WayFault.mono _ _ _ _ _ _ _ _
   | exact LeO.none _
   | refine LeO.ite ?_ ?_
   | refine LeO.bind ?_ (fun _ => ?_)
def impl_ParseWay.T12 : Bool × List (List Nat × List Nat) := (true, [([], []), ([0], [0]), ([1], [1]), ([], []), ([3], [3]), ([4], [4]), ([], []), ([6], [6]), ([7], [7]), ([], []), ([9], [9]), ([10], [10]), ([], []), ([12], [12]), ([13], [13]), ([], []), ([15], [15]), ([16], [16]), ([], []), ([18], [18]), ([19], [19]), ([2, 5, 8, 11, 14, 17, 20], [2, 5, 8, 11, 14, 17, 20]), ([], []), ([22, 21, 0, 1, 2, 3, 4, 5, 6, 7, 8, 9, 10, 11, 12, 13, 14, 15, 16, 17, 18, 19, 20, 21, 22], [21, 22])])
def impl_ParseWay.B12 : List Nat := [0, 1, 3, 0, 8, 24, 0, 64, 192, 0, 512, 1536, 0, 4096, 12288, 0, 32768, 98304, 0, 262144, 786432, 2097151, 0, 8388607]
theorem impl_ParseWay.tab12 : rtab .any (opsOf Tryd.f24 12) = impl_ParseWay.T12 := by kernel_rfl
theorem impl_ParseWay.bits12 : waitsOk impl_ParseWay.T12.2 impl_ParseWay.B12 = true := by kernel_rfl
set_option maxHeartbeats 8000000 in
set_option maxRecDepth 100000 in
theorem impl_ParseWay.calls (k : Nat) (a0 : ByteArray) (r1 : Int) (r2 : Int) (r3 : Int) (r4 : Int) (r5 : Int) (r6 : Int) (r7 : Int) (r8 : Int) (w : World) (hG : Go.Proofs.YtpoafgokngpglaaDoorPw.TabP w) (h : impl_ParseWay.f k a0 = some (r1, r2, r3, r4, r5, r6, r7, r8)) :
  Calls Tryd.prog 24 #[.string a0] w fun e w' => e = .returned (.agg #[.int .i64 r1, .int .i64 r2, .int .i64 r3, .int .i64 r4, .int .i64 r5, .int .i64 r6, .int .i64 r7, .int .i64 r8]) ∧ Below w.heap.size w w' := by
 have hu46 := Tryd.underlying46
 have hu41 := Tryd.underlying41
 have HB := Aside0.mk (Below.refl w.heap.size w)
 have H : ((strings_Split.f a0 (⟨#[32]⟩ : ByteArray)).bind fun t226 => (impl_ParseWay.l0 k (([] : List Int)) t226 (t226.length : Int) 0)) = some (r1, r2, r3, r4, r5, r6, r7, r8) := h
 clear h
 obtain ⟨y223, hy223⟩ : ∃ y_ : List Int, y_ = (([] : List Int)) := ⟨_, rfl⟩
 replace H : ((strings_Split.f a0 (⟨#[32]⟩ : ByteArray)).bind fun t226 => (impl_ParseWay.l0 k y223 t226 (t226.length : Int) 0)) = some (r1, r2, r3, r4, r5, r6, r7, r8) := by first | (rw [hy223]; with_reducible exact H) | (have H2_ := (Option.bind_some _ _).symm.trans H; rw [hy223]; with_reducible exact H2_) | (have H2_ := (Option.bind_some _ _).symm.trans H; with_reducible exact H2_) | with_reducible exact H | (rw [hy223]; exact H) | exact H
 have Ny223 := Aside0.mk hy223
 clear hy223
 replace H := Option.bind_eq_some_iff.mp H
 obtain ⟨t226, A20, H⟩ := H
 (try dsimp only at H)
 have A2 := Aside0.mk A20
 clear A20
 have H' := Aside0.mk H
 clear H
 go_enter Tryd.func24, Tryd.ntmps24
 go_wp2_with (first | ((with_reducible refine gate_dst (N := 2) rfl ?_); refine box_event ?hg (N := 2) ?hd (cs := #[.int .i64 0, .int .i64 0, .int .i64 0, .int .i64 0, .int .i64 0, .int .i64 0, .int .i64 0, .int .i64 0]) (t := 46) ?hr ?_; (case hd => rfl); (case hg => rfl); (case hr => first | (go_simp; done) | (go_simp; rfl)); intro gb222 hg w3 hbox hb; have n0_ := Aside0.mk (below_step (by repeat (first | (with_reducible first | exact HB.out | apply below_alloc | apply pw_below_drewN | apply below_drew1) | exact HB.out)) hb); have n1_ := Aside0.mk (hbox); have n2_ := Aside0.mk ((by rw [hg]; exact (below_size (by repeat (first | (with_reducible first | exact HB.out | apply below_alloc | apply pw_below_drewN | apply below_drew1) | exact HB.out))) : w.heap.size ≤ gb222)); have n3_ := Aside0.mk ((by rw [hg]; exact (below_size (by repeat (first | (with_reducible first | exact HB.out | apply below_alloc | apply pw_below_drewN | apply below_drew1) | exact HB.out))) : w.heap.size ≤ gb222)); clear HB; have HB := n0_; have BK222 := n1_; have GW222 := n2_; have GE222 := n3_; clear n0_ n1_ n2_ n3_; clear hb hbox hg) | ((with_reducible refine gate_dst (N := 9) rfl ?_); refine Kd.R_lit (Kd.int .i64) _ 2 ?hg (N := 9) ?hd (xs := ([] : List Int)) (inner := []) (ok := fun _ => True) (okp := fun _ => True) ?hr ?hp (fun _ hk => hk) trivial (Below.refl _ _) (Nat.le_refl _) (by simp) ?_; (case hd => rfl); (case hg => rfl); (case hr => first | (go_simp; done) | (go_simp; rfl)); (case hp => exact (Reps.none _ _)); intro v224 w4 ho5 hb hg_ hnew_; clear hg_ hnew_; (first | rw [← Ny223.out] at ho5 | (simp only [Int.reduceToNat] at ho5; rw [← Ny223.out] at ho5)); have n0_ := Aside0.mk (Kd.R_lower ho5 (below_size (by repeat (first | (with_reducible first | exact HB.out | apply below_alloc | apply pw_below_drewN | apply below_drew1 | refine below_set ?_ GE222.out) | exact HB.out)))); have n1_ := Aside0.mk (blkb hb BK222.out); have n2_ := Aside0.mk (below_step (by repeat (first | (with_reducible first | exact HB.out | apply below_alloc | apply pw_below_drewN | apply below_drew1 | refine below_set ?_ GE222.out) | exact HB.out)) hb); clear BK222; clear HB; have HO225 := n0_; have BK222 := n1_; have HB := n2_; clear n0_ n1_ n2_; clear hb ho5) | ((with_reducible refine gate_callee (f := 64) rfl ?_); refine goesL_ (some 11) rfl rfl Tryd.func64 (by kernel_rfl) rfl #[.string a0, .string (⟨#[32]⟩ : ByteArray)] rfl (by (try simp only [List.map_toArray, List.map_cons, List.map_nil]); first | done | rfl | (simp only [List.length_drop, List.length_take]; rfl)) ?_; (refine (strings_Split.calls a0 (⟨#[32]⟩ : ByteArray) t226 _ (Go.Proofs.YtpoafgokngpglaaDoorPw.TabP_below hG (by repeat (first | (with_reducible first | exact HB.out | apply below_alloc | apply pw_below_drewN | apply below_drew1 | refine below_set ?_ GE222.out) | exact HB.out))) A2.out).mono ?_); rintro e w6 ⟨v227, rfl, ho0, hb⟩; refine ⟨_, rfl, ?_⟩; have n0_ := Aside0.mk (Kd.R_below (by (with_reducible repeat (first | apply Kd.R_alloc | apply Kd.R_drewN | apply Kd.R_drew)); exact HO225.out) hb); have n1_ := Aside0.mk (Kd.R_lower ho0 (below_size (by repeat (first | (with_reducible first | exact HB.out | apply below_alloc | apply pw_below_drewN | apply below_drew1 | refine below_set ?_ GE222.out) | exact HB.out)))); have n2_ := Aside0.mk (blkb hb BK222.out); have n3_ := Aside0.mk (below_step (by repeat (first | (with_reducible first | exact HB.out | apply below_alloc | apply pw_below_drewN | apply below_drew1 | refine below_set ?_ GE222.out) | exact HB.out)) hb); clear HO225; clear BK222; clear HB; have HO225 := n0_; have HO228 := n1_; have BK222 := n2_; have HB := n3_; clear n0_ n1_ n2_ n3_; (try clear hb); (try clear hb2); (try clear hk); (try clear hi); (try clear ho0); obtain ⟨Ao7, co7, eo7⟩ := Kd.R_slice HO228.out; subst eo7))
 go_loopg [3, 13] k (fun kq v3 v13 w' => ∃ (x3_1 : List Int) (x13_1 : Int) (x223000_1 : Int) (x223001_1 : Int) (x223002_1 : Int) (x223003_1 : Int) (x223004_1 : Int) (x223005_1 : Int) (x223006_1 : Int) (x223007_1 : Int), v13 = .int .i64 x13_1 ∧ Aside0 (impl_ParseWay.l0 kq x3_1 t226 (t226.length : Int) x13_1 = some (r1, r2, r3, r4, r5, r6, r7, r8)) ∧ Aside0 (kq ≤ k) ∧ Aside0 (Kd.R (Kd.int .i64) 2 w' w.heap.size (fun _ => True) v3 x3_1) ∧ Aside0 (Kd.R Kd.string 9 w' w.heap.size (fun _ => True) (.slice Ao7 t226.length co7) t226) ∧ Aside0 (w'.heap[gb222]? = some (.cells #[.int .i64 x223000_1, .int .i64 x223001_1, .int .i64 x223002_1, .int .i64 x223003_1, .int .i64 x223004_1, .int .i64 x223005_1, .int .i64 x223006_1, .int .i64 x223007_1] 46 (0, 0))) ∧ Aside0 (Below w.heap.size w w'))
 case atStart => exact ⟨(y223), (0), (0), (0), (0), (0), (0), (0), (0), (0), (by first | rfl | (simp; done) | (simp [*]; done)), H', ⟨Nat.le_refl _⟩, ⟨by (with_reducible repeat (first | apply Kd.R_alloc | apply Kd.R_drewN | apply Kd.R_drew)); exact HO225.out⟩, ⟨by (with_reducible repeat (first | apply Kd.R_alloc | apply Kd.R_drewN | apply Kd.R_drew)); exact HO228.out⟩, ⟨by (with_reducible repeat (first | refine blk_drewN ?_ _ | refine blk_drew ?_ | refine blk_alloc ?_ _)); exact BK222.out⟩, ⟨by repeat (first | (with_reducible first | exact HB.out | apply below_alloc | apply pw_below_drewN | apply below_drew1 | refine below_set ?_ GE222.out) | exact HB.out)⟩⟩
 case round =>
  clear H'
  try clear c2
  try clear p2
  try clear c6
  obtain ⟨x3_1, x13_1, x223000_1, x223001_1, x223002_1, x223003_1, x223004_1, x223005_1, x223006_1, x223007_1, rfl, HA, HK1, HO_3, HO_11, BK222, HB⟩ := hrel
  cases gk with
  | zero => exact absurd HA.out (by simp [impl_ParseWay.l0])
  | succ k1 =>
   have H := HA.out
   clear HA
   simp only [impl_ParseWay.l0] at H
   by_cases c8 : x13_1 < (t226.length : Int)
   ·rw [if_pos c8] at H
    have c8b0 : decide (x13_1 < (t226.length : Int)) = true := decide_eq_true c8
    clear c8
    by_cases c9 : 0 ≤ x13_1
    ·rw [if_pos c9] at H
     have c9b0 : decide (0 ≤ x13_1) = true := decide_eq_true c9
     clear c9
     by_cases c10 : x13_1 < (t226.length : Int)
     ·rw [if_pos c10] at H
      have c10b0 : decide (x13_1 < (t226.length : Int)) = true := decide_eq_true c10
      clear c10
      replace H := Option.bind_eq_some_iff.mp H
      obtain ⟨⟨t230, t231⟩, A110, H⟩ := H
      (try dsimp only at H)
      have A11 := Aside0.mk A110
      clear A110
      by_cases c12 : t231 = true
      ·subst c12
       rw [if_pos rfl] at H
       by_cases c13 : x3_1.length < 17592186044416
       ·rw [if_pos c13] at H
        have LMc13 := Aside0.mk c13
        clear c13
        obtain ⟨y232, hy232⟩ : ∃ y_ : List Int, y_ = (x3_1 ++ [t230]) := ⟨_, rfl⟩
        replace H : (impl_ParseWay.l0 k1 y232 t226 (t226.length : Int) (wrap64 (x13_1 + 1))) = some (r1, r2, r3, r4, r5, r6, r7, r8) := by first | (rw [hy232]; with_reducible exact H) | (have H2_ := (Option.bind_some _ _).symm.trans H; rw [hy232]; with_reducible exact H2_) | (have H2_ := (Option.bind_some _ _).symm.trans H; with_reducible exact H2_) | with_reducible exact H | (rw [hy232]; exact H) | exact H
        have Ny232 := Aside0.mk hy232
        clear hy232
        have H' := Aside0.mk H
        clear H
        have p229 : 0 ≤ (x13_1 : Int) := of_decide_eq_true (by first | (with_reducible assumption) | assumption)
        have q229 : x13_1 < (t226.length : Int) := of_decide_eq_true (by first | (with_reducible assumption) | assumption)
        obtain ⟨ad229, e229, hx229_0⟩ := Kd.at_string (Kd.R_reads' HO_11.out).2.2 x13_1 p229 q229
        cases e229
        replace p229 := eq_true p229
        replace q229 := eq_true q229
        go_wp2_with (first | ((with_reducible refine gate_callee (f := 65) rfl ?_); refine goesL_ (some 19) rfl rfl Tryd.func65 (by kernel_rfl) rfl #[.string (rdOf ByteArray.empty t226 x13_1)] rfl (by (try simp only [List.map_toArray, List.map_cons, List.map_nil]); first | done | rfl | (simp only [List.length_drop, List.length_take]; rfl)) ?_; (refine (impl_readNumber.calls (rdOf ByteArray.empty t226 x13_1) t230 true _ (Go.Proofs.YtpoafgokngpglaaDoorPw.TabP_below hG (by repeat (first | (with_reducible first | exact HB.out | apply below_alloc | apply pw_below_drewN | apply below_drew1 | refine below_set ?_ GE222.out) | exact HB.out))) A11.out).mono ?_); rintro e w14 ⟨rfl, hb⟩; refine ⟨_, rfl, ?_⟩; have n0_ := Aside0.mk (Kd.R_below (by (with_reducible repeat (first | apply Kd.R_alloc | apply Kd.R_drewN | apply Kd.R_drew)); exact HO_3.out) hb); have n1_ := Aside0.mk (Kd.R_below (by (with_reducible repeat (first | apply Kd.R_alloc | apply Kd.R_drewN | apply Kd.R_drew)); exact HO_11.out) hb); have n2_ := Aside0.mk (blkb hb BK222.out); have n3_ := Aside0.mk (below_step (by repeat (first | (with_reducible first | exact HB.out | apply below_alloc | apply pw_below_drewN | apply below_drew1 | refine below_set ?_ GE222.out) | exact HB.out)) hb); clear HO_3; clear HO_11; clear BK222; clear HB; have HO_3 := n0_; have HO_11 := n1_; have BK222 := n2_; have HB := n3_; clear n0_ n1_ n2_ n3_; (try clear hb); (try clear hb2); (try clear hk); (try clear hi)) | ((with_reducible refine gate_builtin (b := .append) (xs := #[.tmp 25, .tmp 27]) rfl ?_); at_builtin; refine Kd.R_append (Kd.int .i64) (w0 := w) w.heap.size rfl (.tmp 25) (.tmp 27) 60 2 (.int .i64 0) 8 rfl Tryd.underlying60 info2 rfl (by decide) (by omega) u3 x3_1 t230 [.int .i64 t230] (fun _ => True) (fun _ => False) rfl rfl ?aP (fun _ hk => hk.elim) ?aF ?aO ?aB ?aS ?aL ?_; (case aP => exact rfl); (case aB => exact (by repeat (first | (with_reducible first | exact HB.out | apply below_alloc | apply pw_below_drewN | apply below_drew1 | refine below_set ?_ GE222.out) | exact HB.out))); (case aF => exact (fun _ _ => trivial)); (case aO => exact (by (with_reducible repeat (first | apply Kd.R_alloc | apply Kd.R_drewN | apply Kd.R_drew)); exact HO_3.out)); (case aS => exact (below_size (by repeat (first | (with_reducible first | exact HB.out | apply below_alloc | apply pw_below_drewN | apply below_drew1 | refine below_set ?_ GE222.out) | exact HB.out)))); (case aL => have := LMc13.out; omega); intro v233 w15 ho hb hg hat; rw [← Ny232.out] at ho; have n0_ := Aside0.mk (Kd.R_over' (by (with_reducible repeat (first | apply Kd.R_alloc | apply Kd.R_drewN | apply Kd.R_drew)); exact HO_11.out) (Kd.R_typed (by (with_reducible repeat (first | apply Kd.R_alloc | apply Kd.R_drewN | apply Kd.R_drew)); exact HO_3.out)) (by decide) hg); have n1_ := Aside0.mk (blk_grown (g := gb222) (o := .cells #[.int .i64 x223000_1, .int .i64 x223001_1, .int .i64 x223002_1, .int .i64 x223003_1, .int .i64 x223004_1, .int .i64 x223005_1, .int .i64 x223006_1, .int .i64 x223007_1] 46 (0, 0)) (by (with_reducible repeat (first | refine blk_drewN ?_ _ | refine blk_drew ?_ | refine blk_alloc ?_ _)); exact BK222.out) hg (Kd.R_ne HO_3.out BK222.out (by decide))); have n2_ := Aside0.mk (hb); have n3_ := Aside0.mk (ho); clear HO_11; clear BK222; clear HB; clear HO_3; have HO_11 := n0_; have BK222 := n1_; have HB := n2_; have HO234 := n3_; clear n0_ n1_ n2_ n3_; clear ho hb hg hat))
        go_roundg k1
        case measure => have := HK1.out; omega
        case rel => exact ⟨(y232), (wrap64 (x13_1 + 1)), (x223000_1), (x223001_1), (x223002_1), (x223003_1), (x223004_1), (x223005_1), (x223006_1), (x223007_1), (by first | rfl | (simp; done) | (simp [*]; done)), H', ⟨by have := HK1.out; omega⟩, ⟨by (with_reducible repeat (first | apply Kd.R_alloc | apply Kd.R_drewN | apply Kd.R_drew)); exact HO234.out⟩, ⟨by (with_reducible repeat (first | apply Kd.R_alloc | apply Kd.R_drewN | apply Kd.R_drew)); exact HO_11.out⟩, ⟨by (with_reducible repeat (first | refine blk_drewN ?_ _ | refine blk_drew ?_ | refine blk_alloc ?_ _)); exact BK222.out⟩, ⟨by repeat (first | (with_reducible first | exact HB.out | apply below_alloc | apply pw_below_drewN | apply below_drew1 | refine below_set ?_ GE222.out) | exact HB.out)⟩⟩
       ·rw [if_neg c13] at H
        exact absurd H (by simp)
      ·replace c12 := Bool.eq_false_iff.mpr c12
       subst c12
       rw [if_neg (show ¬ (false = true) by decide)] at H
       simp only [Option.some.injEq, Prod.mk.injEq] at H
       obtain ⟨rfl, rfl, rfl, rfl, rfl, rfl, rfl, rfl⟩ := H
       have p229 : 0 ≤ (x13_1 : Int) := of_decide_eq_true (by first | (with_reducible assumption) | assumption)
       have q229 : x13_1 < (t226.length : Int) := of_decide_eq_true (by first | (with_reducible assumption) | assumption)
       obtain ⟨ad229, e229, hx229_0⟩ := Kd.at_string (Kd.R_reads' HO_11.out).2.2 x13_1 p229 q229
       cases e229
       replace p229 := eq_true p229
       replace q229 := eq_true q229
       go_wp2_with (first | ((with_reducible refine gate_callee (f := 65) rfl ?_); refine goesL_ (some 19) rfl rfl Tryd.func65 (by kernel_rfl) rfl #[.string (rdOf ByteArray.empty t226 x13_1)] rfl (by (try simp only [List.map_toArray, List.map_cons, List.map_nil]); first | done | rfl | (simp only [List.length_drop, List.length_take]; rfl)) ?_; (refine (impl_readNumber.calls (rdOf ByteArray.empty t226 x13_1) t230 false _ (Go.Proofs.YtpoafgokngpglaaDoorPw.TabP_below hG (by repeat (first | (with_reducible first | exact HB.out | apply below_alloc | apply pw_below_drewN | apply below_drew1 | refine below_set ?_ GE222.out) | exact HB.out))) A11.out).mono ?_); rintro e w16 ⟨rfl, hb⟩; refine ⟨_, rfl, ?_⟩; have n0_ := Aside0.mk (Kd.R_below (by (with_reducible repeat (first | apply Kd.R_alloc | apply Kd.R_drewN | apply Kd.R_drew)); exact HO_3.out) hb); have n1_ := Aside0.mk (Kd.R_below (by (with_reducible repeat (first | apply Kd.R_alloc | apply Kd.R_drewN | apply Kd.R_drew)); exact HO_11.out) hb); have n2_ := Aside0.mk (blkb hb BK222.out); have n3_ := Aside0.mk (below_step (by repeat (first | (with_reducible first | exact HB.out | apply below_alloc | apply pw_below_drewN | apply below_drew1 | refine below_set ?_ GE222.out) | exact HB.out)) hb); clear HO_3; clear HO_11; clear BK222; clear HB; have HO_3 := n0_; have HO_11 := n1_; have BK222 := n2_; have HB := n3_; clear n0_ n1_ n2_ n3_; (try clear hb); (try clear hb2); (try clear hk); (try clear hi); have hcz17_0 : w16.cell? ⟨gb222, 0, none⟩ = some (.int .i64 x223000_1) := (blk_cell BK222.out 0).trans rfl; have hcz17_1 : w16.cell? ⟨gb222, 1, none⟩ = some (.int .i64 x223001_1) := (blk_cell BK222.out 1).trans rfl; have hcz17_2 : w16.cell? ⟨gb222, 2, none⟩ = some (.int .i64 x223002_1) := (blk_cell BK222.out 2).trans rfl; have hcz17_3 : w16.cell? ⟨gb222, 3, none⟩ = some (.int .i64 x223003_1) := (blk_cell BK222.out 3).trans rfl; have hcz17_4 : w16.cell? ⟨gb222, 4, none⟩ = some (.int .i64 x223004_1) := (blk_cell BK222.out 4).trans rfl; have hcz17_5 : w16.cell? ⟨gb222, 5, none⟩ = some (.int .i64 x223005_1) := (blk_cell BK222.out 5).trans rfl; have hcz17_6 : w16.cell? ⟨gb222, 6, none⟩ = some (.int .i64 x223006_1) := (blk_cell BK222.out 6).trans rfl; have hcz17_7 : w16.cell? ⟨gb222, 7, none⟩ = some (.int .i64 x223007_1) := (blk_cell BK222.out 7).trans rfl; have hfz17_0 := blk_frozen BK222.out 0; have hfz17_1 := blk_frozen BK222.out 1; have hfz17_2 := blk_frozen BK222.out 2; have hfz17_3 := blk_frozen BK222.out 3; have hfz17_4 := blk_frozen BK222.out 4; have hfz17_5 := blk_frozen BK222.out 5; have hfz17_6 := blk_frozen BK222.out 6; have hfz17_7 := blk_frozen BK222.out 7) | ((with_reducible refine gate_store (t := 46) (p := 2) rfl ?_); refine Go.Proofs.YtpoafgokngpglaaDoorCells.store_whole (ty := 46) (x := .tmp 2) (y := ?vo_w18) (g := gb222) (cells := [.int .i64 5, .int .i64 0, .int .i64 0, .int .i64 0, .int .i64 0, .int .i64 0, .int .i64 0, .int .i64 0]) (t := 46) (old := [.int .i64 x223000_1, .int .i64 x223001_1, .int .i64 x223002_1, .int .i64 x223003_1, .int .i64 x223004_1, .int .i64 x223005_1, .int .i64 x223006_1, .int .i64 x223007_1]) ?hg ?ho ?hx ?hy ?hn ?hb ?hi rfl rfl ?_; (case ho => rfl); (case hg => rfl); (case hn => rfl); (case hx => rfl); (case hy => first | rfl | (go_simp; done) | (simp [*]; done)); (case hb => exact (by (with_reducible repeat (first | refine blk_drewN ?_ _ | refine blk_drew ?_ | refine blk_alloc ?_ _)); exact BK222.out)); (case hi => kernel_rfl); intro w18 hob_ hbk hfar hbel; have n0_ : Aside0 (Kd.R (Kd.int .i64) 2 w18 w.heap.size (fun _ => True) u3 x3_1) := ⟨Go.Proofs.YtpoafgokngpglaaDoorCells.R_whole (by (with_reducible repeat (first | apply Kd.R_alloc | apply Kd.R_drewN | apply Kd.R_drew)); exact HO_3.out) hob_ (by decide) hfar⟩; have n1_ : Aside0 (Kd.R Kd.string 9 w18 w.heap.size (fun _ => True) (.slice (some ad229) t226.length co7) t226) := ⟨Go.Proofs.YtpoafgokngpglaaDoorCells.R_whole (by (with_reducible repeat (first | apply Kd.R_alloc | apply Kd.R_drewN | apply Kd.R_drew)); exact HO_11.out) hob_ (by decide) hfar⟩; have n2_ : Aside0 (w18.heap[gb222]? = some (.cells #[.int .i64 5, .int .i64 0, .int .i64 0, .int .i64 0, .int .i64 0, .int .i64 0, .int .i64 0, .int .i64 0] 46 (0, 0))) := ⟨hbk⟩; have n3_ : Aside0 (Below w.heap.size w w18) := ⟨hbel _ _ GE222.out (by repeat (first | (with_reducible first | exact HB.out | apply below_alloc | apply pw_below_drewN | apply below_drew1 | refine below_set ?_ GE222.out) | exact HB.out))⟩; clear hob_ hbk hfar hbel; clear HO_3; clear HO_11; clear BK222; clear HB; have HO_3 := n0_; have HO_11 := n1_; have BK222 := n2_; have HB := n3_; clear n0_ n1_ n2_ n3_))
       refine bodyPost_ret (results_cell_row rfl _ _ gb222 46 #[.int .i64 5, .int .i64 0, .int .i64 0, .int .i64 0, .int .i64 0, .int .i64 0, .int .i64 0, .int .i64 0] (0, 0) _ rfl (by (with_reducible repeat (first | refine blk_drewN ?_ _ | refine blk_drew ?_ | refine blk_alloc ?_ _)); exact BK222.out) Tryd.underlying46 rfl (by kernel_rfl)) rfl ?_
       exact ⟨by first | rfl | (simp [errW_none, errW_some] <;> rfl) | (simp [*, errW_none, errW_some] <;> rfl), by repeat (first | (with_reducible first | exact HB.out | apply below_alloc | apply pw_below_drewN | apply below_drew1 | refine below_set ?_ GE222.out) | exact HB.out)⟩
     ·rw [if_neg c10] at H
      exact absurd H (by simp)
    ·rw [if_neg c9] at H
     exact absurd H (by simp)
   ·rw [if_neg c8] at H
    have c8b0 : decide (x13_1 < (t226.length : Int)) = false := decide_eq_false c8
    clear c8
    replace H := Option.bind_eq_some_iff.mp H
    obtain ⟨t235, A190, H⟩ := H
    (try dsimp only at H)
    have A19 := Aside0.mk A190
    clear A190
    by_cases c20 : (x3_1.length : Int) = (t235.length : Int)
    ·rw [if_pos c20] at H
     have c20b0 : ((x3_1.length : Int) == (t235.length : Int)) = true := beq_iff_eq.mpr c20
     have c20b1 : ((x3_1.length : Int) != (t235.length : Int)) = false := bne_eq_false_iff_eq.mpr c20
     have c20b2 : (x3_1.length == t235.length) = true := by first | simpa using c20 | (simp at c20 ⊢; omega)
     clear c20
     by_cases c21 : 0 < (x3_1.length : Int)
     ·rw [if_pos c21] at H
      have c21b0 : decide (0 < (x3_1.length : Int)) = true := decide_eq_true c21
      have c21b1 : decide (0 < x3_1.length) = true := decide_eq_true (by omega)
      clear c21
      by_cases c22 : 1 < (x3_1.length : Int)
      ·rw [if_pos c22] at H
       have c22b0 : decide (1 < (x3_1.length : Int)) = true := decide_eq_true c22
       have c22b1 : decide (1 < x3_1.length) = true := decide_eq_true (by omega)
       clear c22
       by_cases c23 : 2 < (x3_1.length : Int)
       ·rw [if_pos c23] at H
        have c23b0 : decide (2 < (x3_1.length : Int)) = true := decide_eq_true c23
        have c23b1 : decide (2 < x3_1.length) = true := decide_eq_true (by omega)
        clear c23
        by_cases c24 : 3 < (x3_1.length : Int)
        ·rw [if_pos c24] at H
         have c24b0 : decide (3 < (x3_1.length : Int)) = true := decide_eq_true c24
         have c24b1 : decide (3 < x3_1.length) = true := decide_eq_true (by omega)
         clear c24
         by_cases c25 : 4 < (x3_1.length : Int)
         ·rw [if_pos c25] at H
          have c25b0 : decide (4 < (x3_1.length : Int)) = true := decide_eq_true c25
          have c25b1 : decide (4 < x3_1.length) = true := decide_eq_true (by omega)
          clear c25
          by_cases c26 : 5 < (x3_1.length : Int)
          ·rw [if_pos c26] at H
           have c26b0 : decide (5 < (x3_1.length : Int)) = true := decide_eq_true c26
           have c26b1 : decide (5 < x3_1.length) = true := decide_eq_true (by omega)
           clear c26
           by_cases c27 : 6 < (x3_1.length : Int)
           ·rw [if_pos c27] at H
            have c27b0 : decide (6 < (x3_1.length : Int)) = true := decide_eq_true c27
            have c27b1 : decide (6 < x3_1.length) = true := decide_eq_true (by omega)
            clear c27
            replace H := Option.bind_eq_some_iff.mp H
            obtain ⟨t246, A280, H⟩ := H
            (try dsimp only at H)
            have A28 := Aside0.mk A280
            clear A280
            by_cases c29 : t246 = 0
            ·rw [if_pos c29] at H
             have c29b0 : (t246 == 0) = true := beq_iff_eq.mpr c29
             have c29b1 : (t246 != 0) = false := bne_eq_false_iff_eq.mpr c29
             clear c29
             simp only [Option.some.injEq, Prod.mk.injEq] at H
             obtain ⟨rfl, rfl, rfl, rfl, rfl, rfl, rfl, rfl⟩ := H
             obtain ⟨Ao30, co30, eo30⟩ := Kd.R_slice HO_3.out
             subst eo30
             try go_wp2_with (first | ((with_reducible refine gate_callee (f := 66) rfl ?_); refine goesL_ (some 33) rfl rfl Tryd.func66 (by kernel_rfl) rfl #[.agg #[.int .i64 0, .int .i64 0, .int .i64 0, .int .i64 0, .int .i64 0, .int .i64 0, .int .i64 0]] rfl (by (try simp only [List.map_toArray, List.map_cons, List.map_nil]); first | done | rfl | (simp only [List.length_drop, List.length_take]; rfl)) ?_; (with_reducible refine (impl_Way_numbers.calls 0 0 0 0 0 0 0 t235 _ A19.out).mono ?_); rintro e w31 ⟨v236, rfl, ho0, hb⟩; refine ⟨_, rfl, ?_⟩; have n0_ := Aside0.mk (Kd.R_elder' (by (with_reducible repeat (first | apply Kd.R_alloc | apply Kd.R_drewN | apply Kd.R_drew)); exact HO_3.out) (Kd.R_base ho0) hb); have n1_ := Aside0.mk (Kd.R_below (by (with_reducible repeat (first | apply Kd.R_alloc | apply Kd.R_drewN | apply Kd.R_drew)); exact HO_11.out) hb); have n2_ := Aside0.mk (Kd.R_lower (Kd.R_new' ho0 (Kd.R_lt (by (with_reducible repeat (first | apply Kd.R_alloc | apply Kd.R_drewN | apply Kd.R_drew)); exact HO_3.out))) (below_size (by repeat (first | (with_reducible first | exact HB.out | apply below_alloc | apply pw_below_drewN | apply below_drew1 | refine below_set ?_ GE222.out) | exact HB.out)))); have n3_ := Aside0.mk (blkb hb BK222.out); have n4_ := Aside0.mk (below_step (by repeat (first | (with_reducible first | exact HB.out | apply below_alloc | apply pw_below_drewN | apply below_drew1 | refine below_set ?_ GE222.out) | exact HB.out)) hb); clear HO_3; clear HO_11; clear BK222; clear HB; have HO_3 := n0_; have HO_11 := n1_; have HO237 := n2_; have BK222 := n3_; have HB := n4_; clear n0_ n1_ n2_ n3_ n4_; (try clear hb); (try clear hb2); (try clear hk); (try clear hi); (try clear ho0); obtain ⟨Ao32, co32, eo32⟩ := Kd.R_slice HO237.out; subst eo32))
             have n0_ := Aside0.mk (Kd.R_drew HO_3.out)
             have n1_ := Aside0.mk (Kd.R_drew HO_11.out)
             have n2_ := Aside0.mk (Kd.R_drew HO237.out)
             have n3_ := Aside0.mk (blk_drew BK222.out)
             have n4_ := Aside0.mk (below_drew1 HB.out)
             clear HO_3
             clear HO_11
             clear HO237
             clear BK222
             clear HB
             have HO_3 := n0_
             have HO_11 := n1_
             have HO237 := n2_
             have BK222 := n3_
             have HB := n4_
             clear n0_ n1_ n2_ n3_ n4_
             have p238 : 0 ≤ (0 : Int) := (by omega)
             have q238 : 0 < (x3_1.length : Int) := of_decide_eq_true (by first | (with_reducible assumption) | assumption)
             obtain ⟨ad238, e238, hx238_0⟩ := Kd.at_int (Kd.R_reads' HO_3.out).2.2 0 p238 q238
             cases e238
             have qi238 : (0 < x3_1.length) = True := eq_true (by omega)
             (try rw [show ((0 : Int)).toNat = 0 from rfl] at hx238_0)
             (try rw [Addr.add_zero'] at hx238_0)
             replace p238 := eq_true p238
             replace q238 := eq_true q238
             have p239 : 0 ≤ (1 : Int) := (by omega)
             have q239 : 1 < (x3_1.length : Int) := of_decide_eq_true (by first | (with_reducible assumption) | assumption)
             obtain ⟨ad239, e239, hx239_0⟩ := Kd.at_int (Kd.R_reads' HO_3.out).2.2 1 p239 q239
             obtain rfl : ad238 = ad239 := (by injection e239)
             (try simp only [show (1 : Int).toNat = 1 from rfl, Nat.reduceMul, Nat.reduceEqDiff, Go.Addr.add, ↓reduceIte] at hx239_0)
             have qi239 : (1 < x3_1.length) = True := eq_true (by omega)
             (try rw [show ((1 : Int)).toNat = 1 from rfl] at hx239_0)
             replace p239 := eq_true p239
             replace q239 := eq_true q239
             have p240 : 0 ≤ (2 : Int) := (by omega)
             have q240 : 2 < (x3_1.length : Int) := of_decide_eq_true (by first | (with_reducible assumption) | assumption)
             obtain ⟨ad240, e240, hx240_0⟩ := Kd.at_int (Kd.R_reads' HO_3.out).2.2 2 p240 q240
             obtain rfl : ad238 = ad240 := (by injection e240)
             (try simp only [show (2 : Int).toNat = 2 from rfl, Nat.reduceMul, Nat.reduceEqDiff, Go.Addr.add, ↓reduceIte] at hx240_0)
             have qi240 : (2 < x3_1.length) = True := eq_true (by omega)
             (try rw [show ((2 : Int)).toNat = 2 from rfl] at hx240_0)
             replace p240 := eq_true p240
             replace q240 := eq_true q240
             have p241 : 0 ≤ (3 : Int) := (by omega)
             have q241 : 3 < (x3_1.length : Int) := of_decide_eq_true (by first | (with_reducible assumption) | assumption)
             obtain ⟨ad241, e241, hx241_0⟩ := Kd.at_int (Kd.R_reads' HO_3.out).2.2 3 p241 q241
             obtain rfl : ad238 = ad241 := (by injection e241)
             (try simp only [show (3 : Int).toNat = 3 from rfl, Nat.reduceMul, Nat.reduceEqDiff, Go.Addr.add, ↓reduceIte] at hx241_0)
             have qi241 : (3 < x3_1.length) = True := eq_true (by omega)
             (try rw [show ((3 : Int)).toNat = 3 from rfl] at hx241_0)
             replace p241 := eq_true p241
             replace q241 := eq_true q241
             have p242 : 0 ≤ (4 : Int) := (by omega)
             have q242 : 4 < (x3_1.length : Int) := of_decide_eq_true (by first | (with_reducible assumption) | assumption)
             obtain ⟨ad242, e242, hx242_0⟩ := Kd.at_int (Kd.R_reads' HO_3.out).2.2 4 p242 q242
             obtain rfl : ad238 = ad242 := (by injection e242)
             (try simp only [show (4 : Int).toNat = 4 from rfl, Nat.reduceMul, Nat.reduceEqDiff, Go.Addr.add, ↓reduceIte] at hx242_0)
             have qi242 : (4 < x3_1.length) = True := eq_true (by omega)
             (try rw [show ((4 : Int)).toNat = 4 from rfl] at hx242_0)
             replace p242 := eq_true p242
             replace q242 := eq_true q242
             have p243 : 0 ≤ (5 : Int) := (by omega)
             have q243 : 5 < (x3_1.length : Int) := of_decide_eq_true (by first | (with_reducible assumption) | assumption)
             obtain ⟨ad243, e243, hx243_0⟩ := Kd.at_int (Kd.R_reads' HO_3.out).2.2 5 p243 q243
             obtain rfl : ad238 = ad243 := (by injection e243)
             (try simp only [show (5 : Int).toNat = 5 from rfl, Nat.reduceMul, Nat.reduceEqDiff, Go.Addr.add, ↓reduceIte] at hx243_0)
             have qi243 : (5 < x3_1.length) = True := eq_true (by omega)
             (try rw [show ((5 : Int)).toNat = 5 from rfl] at hx243_0)
             replace p243 := eq_true p243
             replace q243 := eq_true q243
             have p244 : 0 ≤ (6 : Int) := (by omega)
             have q244 : 6 < (x3_1.length : Int) := of_decide_eq_true (by first | (with_reducible assumption) | assumption)
             obtain ⟨ad244, e244, hx244_0⟩ := Kd.at_int (Kd.R_reads' HO_3.out).2.2 6 p244 q244
             obtain rfl : ad238 = ad244 := (by injection e244)
             (try simp only [show (6 : Int).toNat = 6 from rfl, Nat.reduceMul, Nat.reduceEqDiff, Go.Addr.add, ↓reduceIte] at hx244_0)
             have qi244 : (6 < x3_1.length) = True := eq_true (by omega)
             (try rw [show ((6 : Int)).toNat = 6 from rfl] at hx244_0)
             replace p244 := eq_true p244
             replace q244 := eq_true q244
             refine start_ (n := 24) (S := fun w' => w'.cell? ad238 = some (.int .i64 (rd x3_1 0)) ∧ w'.cell? ⟨ad238.block, ad238.off + 1, none⟩ = some (.int .i64 (rd x3_1 1)) ∧ w'.cell? ⟨ad238.block, ad238.off + 2, none⟩ = some (.int .i64 (rd x3_1 2)) ∧ w'.cell? ⟨ad238.block, ad238.off + 3, none⟩ = some (.int .i64 (rd x3_1 3)) ∧ w'.cell? ⟨ad238.block, ad238.off + 4, none⟩ = some (.int .i64 (rd x3_1 4)) ∧ w'.cell? ⟨ad238.block, ad238.off + 5, none⟩ = some (.int .i64 (rd x3_1 5)) ∧ w'.cell? ⟨ad238.block, ad238.off + 6, none⟩ = some (.int .i64 (rd x3_1 6))) (ds := []) #[false, false, false, false, false, false, false, false, false, false, false, false, false, false, false, false, false, false, false, false, false, false, false, false] (by kernel_rfl) rfl rfl ⟨hx238_0, hx239_0, hx240_0, hx241_0, hx242_0, hx243_0, hx244_0⟩ (fun hHeld => ?_); refine with_tabW impl_ParseWay.tab12 impl_ParseWay.bits12 (fun HT_ HW_ => ?_)
             generalize w31.drew = w33 at HO_3 HO_11 HO237 BK222 HB hx238_0 hx239_0 hx240_0 hx241_0 hx242_0 hx243_0 hx244_0 hHeld ⊢
             refine pure_ (i := 0) (N := some 37) (v := ?_) (a' := ?_) #[true, false, false, false, false, false, false, false, false, false, false, false, false, false, false, false, false, false, false, false, false, false, false, false] rfl rfl (any_of HT_.out (by kernel_rfl)) (fun _ _ _ h => h) (Or.inl ⟨by rfl, ?_⟩) ?_ ?_
             rotate_left
             ·intro w'
              go_simp
              with_reducible rfl
             rotate_left
             ·simp only [Act.put, List.setIfInBounds_toArray, List.set_cons_zero, List.set_cons_succ, i64_w, i32_w]
              rfl
             refine pure_ (i := 1) (N := some 38) (v := ?_) (a' := ?_) #[true, true, false, false, false, false, false, false, false, false, false, false, false, false, false, false, false, false, false, false, false, false, false, false] rfl rfl (any_of HT_.out (by kernel_rfl)) (fun _ _ _ h => h) (Or.inl ⟨by rfl, ?_⟩) ?_ ?_
             rotate_left
             ·intro w'
              go_simp
              with_reducible rfl
             rotate_left
             ·simp only [Act.put, List.setIfInBounds_toArray, List.set_cons_zero, List.set_cons_succ, i64_w, i32_w]
              rfl
             refine pure_ (i := 3) (N := some 40) (v := ?_) (a' := ?_) #[true, true, false, true, false, false, false, false, false, false, false, false, false, false, false, false, false, false, false, false, false, false, false, false] rfl rfl (any_of HT_.out (by kernel_rfl)) (fun _ _ _ h => h) (Or.inl ⟨by rfl, ?_⟩) ?_ ?_
             rotate_left
             ·intro w'
              go_simp
              with_reducible rfl
             rotate_left
             ·simp only [Act.put, List.setIfInBounds_toArray, List.set_cons_zero, List.set_cons_succ, i64_w, i32_w]
              rfl
             refine pure_ (i := 4) (N := some 41) (v := ?_) (a' := ?_) #[true, true, false, true, true, false, false, false, false, false, false, false, false, false, false, false, false, false, false, false, false, false, false, false] rfl rfl (any_of HT_.out (by kernel_rfl)) (fun _ _ _ h => h) (Or.inl ⟨by rfl, ?_⟩) ?_ ?_
             rotate_left
             ·intro w'
              go_simp
              with_reducible rfl
             rotate_left
             ·simp only [Act.put, List.setIfInBounds_toArray, List.set_cons_zero, List.set_cons_succ, i64_w, i32_w]
              rfl
             refine pure_ (i := 6) (N := some 43) (v := ?_) (a' := ?_) #[true, true, false, true, true, false, true, false, false, false, false, false, false, false, false, false, false, false, false, false, false, false, false, false] rfl rfl (any_of HT_.out (by kernel_rfl)) (fun _ _ _ h => h) (Or.inl ⟨by rfl, ?_⟩) ?_ ?_
             rotate_left
             ·intro w'
              go_simp
              with_reducible rfl
             rotate_left
             ·simp only [Act.put, List.setIfInBounds_toArray, List.set_cons_zero, List.set_cons_succ, i64_w, i32_w]
              rfl
             refine pure_ (i := 7) (N := some 44) (v := ?_) (a' := ?_) #[true, true, false, true, true, false, true, true, false, false, false, false, false, false, false, false, false, false, false, false, false, false, false, false] rfl rfl (any_of HT_.out (by kernel_rfl)) (fun _ _ _ h => h) (Or.inl ⟨by rfl, ?_⟩) ?_ ?_
             rotate_left
             ·intro w'
              go_simp
              with_reducible rfl
             rotate_left
             ·simp only [Act.put, List.setIfInBounds_toArray, List.set_cons_zero, List.set_cons_succ, i64_w, i32_w]
              rfl
             refine pure_ (i := 9) (N := some 46) (v := ?_) (a' := ?_) #[true, true, false, true, true, false, true, true, false, true, false, false, false, false, false, false, false, false, false, false, false, false, false, false] rfl rfl (any_of HT_.out (by kernel_rfl)) (fun _ _ _ h => h) (Or.inl ⟨by rfl, ?_⟩) ?_ ?_
             rotate_left
             ·intro w'
              go_simp
              with_reducible rfl
             rotate_left
             ·simp only [Act.put, List.setIfInBounds_toArray, List.set_cons_zero, List.set_cons_succ, i64_w, i32_w]
              rfl
             refine pure_ (i := 10) (N := some 47) (v := ?_) (a' := ?_) #[true, true, false, true, true, false, true, true, false, true, true, false, false, false, false, false, false, false, false, false, false, false, false, false] rfl rfl (any_of HT_.out (by kernel_rfl)) (fun _ _ _ h => h) (Or.inl ⟨by rfl, ?_⟩) ?_ ?_
             rotate_left
             ·intro w'
              go_simp
              with_reducible rfl
             rotate_left
             ·simp only [Act.put, List.setIfInBounds_toArray, List.set_cons_zero, List.set_cons_succ, i64_w, i32_w]
              rfl
             refine pure_ (i := 12) (N := some 49) (v := ?_) (a' := ?_) #[true, true, false, true, true, false, true, true, false, true, true, false, true, false, false, false, false, false, false, false, false, false, false, false] rfl rfl (any_of HT_.out (by kernel_rfl)) (fun _ _ _ h => h) (Or.inl ⟨by rfl, ?_⟩) ?_ ?_
             rotate_left
             ·intro w'
              go_simp
              with_reducible rfl
             rotate_left
             ·simp only [Act.put, List.setIfInBounds_toArray, List.set_cons_zero, List.set_cons_succ, i64_w, i32_w]
              rfl
             refine pure_ (i := 13) (N := some 50) (v := ?_) (a' := ?_) #[true, true, false, true, true, false, true, true, false, true, true, false, true, true, false, false, false, false, false, false, false, false, false, false] rfl rfl (any_of HT_.out (by kernel_rfl)) (fun _ _ _ h => h) (Or.inl ⟨by rfl, ?_⟩) ?_ ?_
             rotate_left
             ·intro w'
              go_simp
              with_reducible rfl
             rotate_left
             ·simp only [Act.put, List.setIfInBounds_toArray, List.set_cons_zero, List.set_cons_succ, i64_w, i32_w]
              rfl
             refine pure_ (i := 15) (N := some 52) (v := ?_) (a' := ?_) #[true, true, false, true, true, false, true, true, false, true, true, false, true, true, false, true, false, false, false, false, false, false, false, false] rfl rfl (any_of HT_.out (by kernel_rfl)) (fun _ _ _ h => h) (Or.inl ⟨by rfl, ?_⟩) ?_ ?_
             rotate_left
             ·intro w'
              go_simp
              with_reducible rfl
             rotate_left
             ·simp only [Act.put, List.setIfInBounds_toArray, List.set_cons_zero, List.set_cons_succ, i64_w, i32_w]
              rfl
             refine pure_ (i := 16) (N := some 53) (v := ?_) (a' := ?_) #[true, true, false, true, true, false, true, true, false, true, true, false, true, true, false, true, true, false, false, false, false, false, false, false] rfl rfl (any_of HT_.out (by kernel_rfl)) (fun _ _ _ h => h) (Or.inl ⟨by rfl, ?_⟩) ?_ ?_
             rotate_left
             ·intro w'
              go_simp
              with_reducible rfl
             rotate_left
             ·simp only [Act.put, List.setIfInBounds_toArray, List.set_cons_zero, List.set_cons_succ, i64_w, i32_w]
              rfl
             refine pure_ (i := 18) (N := some 55) (v := ?_) (a' := ?_) #[true, true, false, true, true, false, true, true, false, true, true, false, true, true, false, true, true, false, true, false, false, false, false, false] rfl rfl (any_of HT_.out (by kernel_rfl)) (fun _ _ _ h => h) (Or.inl ⟨by rfl, ?_⟩) ?_ ?_
             rotate_left
             ·intro w'
              go_simp
              with_reducible rfl
             rotate_left
             ·simp only [Act.put, List.setIfInBounds_toArray, List.set_cons_zero, List.set_cons_succ, i64_w, i32_w]
              rfl
             refine pure_ (i := 19) (N := some 56) (v := ?_) (a' := ?_) #[true, true, false, true, true, false, true, true, false, true, true, false, true, true, false, true, true, false, true, true, false, false, false, false] rfl rfl (any_of HT_.out (by kernel_rfl)) (fun _ _ _ h => h) (Or.inl ⟨by rfl, ?_⟩) ?_ ?_
             rotate_left
             ·intro w'
              go_simp
              with_reducible rfl
             rotate_left
             ·simp only [Act.put, List.setIfInBounds_toArray, List.set_cons_zero, List.set_cons_succ, i64_w, i32_w]
              rfl
             refine take_ (i := 2) (N := some 39) (v := ?_) (a' := ?_) #[true, true, true, true, true, false, true, true, false, true, true, false, true, true, false, true, true, false, true, true, false, false, false, false] rfl rfl (take_ofW HT_.out HW_.out (by kernel_rfl)) (fun _ _ _ h => h) (Or.inl ⟨by rfl, ?_⟩) hHeld ?_ ?_
             rotate_left
             ·rintro w' ⟨s0, s1, s2, s3, s4, s5, s6⟩
              go_simp
              with_reducible rfl
             rotate_left
             ·simp only [Act.put, List.setIfInBounds_toArray, List.set_cons_zero, List.set_cons_succ, i64_w, i32_w]
              rfl
             refine take_ (i := 5) (N := some 42) (v := ?_) (a' := ?_) #[true, true, true, true, true, true, true, true, false, true, true, false, true, true, false, true, true, false, true, true, false, false, false, false] rfl rfl (take_ofW HT_.out HW_.out (by kernel_rfl)) (fun _ _ _ h => h) (Or.inl ⟨by rfl, ?_⟩) hHeld ?_ ?_
             rotate_left
             ·rintro w' ⟨s0, s1, s2, s3, s4, s5, s6⟩
              go_simp
              with_reducible rfl
             rotate_left
             ·simp only [Act.put, List.setIfInBounds_toArray, List.set_cons_zero, List.set_cons_succ, i64_w, i32_w]
              rfl
             refine take_ (i := 8) (N := some 45) (v := ?_) (a' := ?_) #[true, true, true, true, true, true, true, true, true, true, true, false, true, true, false, true, true, false, true, true, false, false, false, false] rfl rfl (take_ofW HT_.out HW_.out (by kernel_rfl)) (fun _ _ _ h => h) (Or.inl ⟨by rfl, ?_⟩) hHeld ?_ ?_
             rotate_left
             ·rintro w' ⟨s0, s1, s2, s3, s4, s5, s6⟩
              go_simp
              with_reducible rfl
             rotate_left
             ·simp only [Act.put, List.setIfInBounds_toArray, List.set_cons_zero, List.set_cons_succ, i64_w, i32_w]
              rfl
             refine take_ (i := 11) (N := some 48) (v := ?_) (a' := ?_) #[true, true, true, true, true, true, true, true, true, true, true, true, true, true, false, true, true, false, true, true, false, false, false, false] rfl rfl (take_ofW HT_.out HW_.out (by kernel_rfl)) (fun _ _ _ h => h) (Or.inl ⟨by rfl, ?_⟩) hHeld ?_ ?_
             rotate_left
             ·rintro w' ⟨s0, s1, s2, s3, s4, s5, s6⟩
              go_simp
              with_reducible rfl
             rotate_left
             ·simp only [Act.put, List.setIfInBounds_toArray, List.set_cons_zero, List.set_cons_succ, i64_w, i32_w]
              rfl
             refine take_ (i := 14) (N := some 51) (v := ?_) (a' := ?_) #[true, true, true, true, true, true, true, true, true, true, true, true, true, true, true, true, true, false, true, true, false, false, false, false] rfl rfl (take_ofW HT_.out HW_.out (by kernel_rfl)) (fun _ _ _ h => h) (Or.inl ⟨by rfl, ?_⟩) hHeld ?_ ?_
             rotate_left
             ·rintro w' ⟨s0, s1, s2, s3, s4, s5, s6⟩
              go_simp
              with_reducible rfl
             rotate_left
             ·simp only [Act.put, List.setIfInBounds_toArray, List.set_cons_zero, List.set_cons_succ, i64_w, i32_w]
              rfl
             refine take_ (i := 17) (N := some 54) (v := ?_) (a' := ?_) #[true, true, true, true, true, true, true, true, true, true, true, true, true, true, true, true, true, true, true, true, false, false, false, false] rfl rfl (take_ofW HT_.out HW_.out (by kernel_rfl)) (fun _ _ _ h => h) (Or.inl ⟨by rfl, ?_⟩) hHeld ?_ ?_
             rotate_left
             ·rintro w' ⟨s0, s1, s2, s3, s4, s5, s6⟩
              go_simp
              with_reducible rfl
             rotate_left
             ·simp only [Act.put, List.setIfInBounds_toArray, List.set_cons_zero, List.set_cons_succ, i64_w, i32_w]
              rfl
             refine take_ (i := 20) (N := some 57) (v := ?_) (a' := ?_) #[true, true, true, true, true, true, true, true, true, true, true, true, true, true, true, true, true, true, true, true, true, false, false, false] rfl rfl (take_ofW HT_.out HW_.out (by kernel_rfl)) (fun _ _ _ h => h) (Or.inl ⟨by rfl, ?_⟩) hHeld ?_ ?_
             rotate_left
             ·rintro w' ⟨s0, s1, s2, s3, s4, s5, s6⟩
              go_simp
              with_reducible rfl
             rotate_left
             ·simp only [Act.put, List.setIfInBounds_toArray, List.set_cons_zero, List.set_cons_succ, i64_w, i32_w]
              rfl
             refine pure_ (i := 21) (N := some 58) (v := ?_) (a' := ?_) #[true, true, true, true, true, true, true, true, true, true, true, true, true, true, true, true, true, true, true, true, true, true, false, false] rfl rfl (any_of HT_.out (by kernel_rfl)) (fun _ _ _ h => h) (Or.inl ⟨by rfl, ?_⟩) ?_ ?_
             rotate_left
             ·intro w'
              go_simp
              with_reducible rfl
             rotate_left
             ·simp only [Act.put, List.setIfInBounds_toArray, List.set_cons_zero, List.set_cons_succ, i64_w, i32_w]
              rfl
             refine one_ (i := 22) (N := some 8) #[true, true, true, true, true, true, true, true, true, true, true, true, true, true, true, true, true, true, true, true, true, true, true, false] rfl rfl (one_of HT_.out (by kernel_rfl)) (by decide) (fun K hK => ?_)
             refine box_step ?hg (N := 8) ?hd (cs := #[.int .i64 0, .int .i64 0, .int .i64 0, .int .i64 0, .int .i64 0, .int .i64 0, .int .i64 0]) (t := 41) ?hr ?_; (case hd => rfl); (case hg => rfl); (case hr => first | (go_simp; done) | (go_simp; rfl))
             intro gb245 hg w34 hbox hb
             have HS0_ := (hb.cell (World.block_lt_of_cell? _ _ (hHeld.1))).trans (hHeld.1)
             have HS1_ := (hb.cell (World.block_lt_of_cell? _ _ (hHeld.2.1))).trans (hHeld.2.1)
             have HS2_ := (hb.cell (World.block_lt_of_cell? _ _ (hHeld.2.2.1))).trans (hHeld.2.2.1)
             have HS3_ := (hb.cell (World.block_lt_of_cell? _ _ (hHeld.2.2.2.1))).trans (hHeld.2.2.2.1)
             have HS4_ := (hb.cell (World.block_lt_of_cell? _ _ (hHeld.2.2.2.2.1))).trans (hHeld.2.2.2.2.1)
             have HS5_ := (hb.cell (World.block_lt_of_cell? _ _ (hHeld.2.2.2.2.2.1))).trans (hHeld.2.2.2.2.2.1)
             have HS6_ := (hb.cell (World.block_lt_of_cell? _ _ (hHeld.2.2.2.2.2.2))).trans (hHeld.2.2.2.2.2.2)
             have n0_ := Aside0.mk (Kd.R_below (by (with_reducible repeat (first | apply Kd.R_alloc | apply Kd.R_drewN | apply Kd.R_drew)); exact HO_3.out) hb)
             have n1_ := Aside0.mk (Kd.R_below (by (with_reducible repeat (first | apply Kd.R_alloc | apply Kd.R_drewN | apply Kd.R_drew)); exact HO_11.out) hb)
             have n2_ := Aside0.mk (Kd.R_below (by (with_reducible repeat (first | apply Kd.R_alloc | apply Kd.R_drewN | apply Kd.R_drew)); exact HO237.out) hb)
             have n3_ := Aside0.mk (blkb hb BK222.out)
             have n4_ := Aside0.mk (below_step (by repeat (first | (with_reducible first | exact HB.out | apply below_alloc | apply pw_below_drewN | apply below_drew1 | refine below_set ?_ GE222.out) | exact HB.out)) hb)
             have n5_ := Aside0.mk (hbox)
             have n6_ := Aside0.mk ((by rw [hg]; exact (below_size (by repeat (first | (with_reducible first | exact HB.out | apply below_alloc | apply pw_below_drewN | apply below_drew1 | refine below_set ?_ GE222.out) | exact HB.out))) : w.heap.size ≤ gb245))
             have n7_ := Aside0.mk ((by rw [hg]; exact (below_size (by repeat (first | (with_reducible first | exact HB.out | apply below_alloc | apply pw_below_drewN | apply below_drew1 | refine below_set ?_ GE222.out) | exact HB.out))) : w.heap.size ≤ gb245))
             have n8_ := Aside0.mk ((blkn hg BK222.out))
             have n9_ := Aside0.mk ((blkm hg BK222.out))
             clear HO_3
             clear HO_11
             clear HO237
             clear BK222
             clear HB
             have HO_3 := n0_
             have HO_11 := n1_
             have HO237 := n2_
             have BK222 := n3_
             have HB := n4_
             have BK245 := n5_
             have GW245 := n6_
             have GE245 := n7_
             have NB222_245 := n8_
             have NB245_222 := n9_
             clear n0_ n1_ n2_ n3_ n4_ n5_ n6_ n7_ n8_ n9_
             clear hb hbox hg
             refine hK.out _ _ ⟨HS0_, HS1_, HS2_, HS3_, HS4_, HS5_, HS6_⟩ (fun hHeld => ?_)
             clear hK K
             refine norm_ (a' := ?_) ?_ ?_
             rotate_left
             ·show Act.put _ (some 8) _ = _
              simp only [Act.put, List.setIfInBounds_toArray, List.set_cons_zero, List.set_cons_succ, i64_w, i32_w]
              rfl
             refine one_ (i := 23) (N := none) #[true, true, true, true, true, true, true, true, true, true, true, true, true, true, true, true, true, true, true, true, true, true, true, true] rfl rfl (one_of HT_.out (by kernel_rfl)) (by decide) (fun K hK => ?_)
             have hs35 : w34.cell? ⟨gb245, 0, none⟩ = some (.int .i64 0) := (blk_cell BK245.out 0).trans rfl
             have hfs35 := blk_frozen BK245.out 0
             have hns35_0 := NB222_245.out
             have hms35_0 := NB245_222.out
             have hs36 : w34.cell? ⟨gb245, 1, none⟩ = some (.int .i64 0) := (blk_cell BK245.out 1).trans rfl
             have hfs36 := blk_frozen BK245.out 1
             have hns36_0 := NB222_245.out
             have hms36_0 := NB245_222.out
             have hs37 : w34.cell? ⟨gb245, 2, none⟩ = some (.int .i64 0) := (blk_cell BK245.out 2).trans rfl
             have hfs37 := blk_frozen BK245.out 2
             have hns37_0 := NB222_245.out
             have hms37_0 := NB245_222.out
             have hs38 : w34.cell? ⟨gb245, 3, none⟩ = some (.int .i64 0) := (blk_cell BK245.out 3).trans rfl
             have hfs38 := blk_frozen BK245.out 3
             have hns38_0 := NB222_245.out
             have hms38_0 := NB245_222.out
             have hs39 : w34.cell? ⟨gb245, 4, none⟩ = some (.int .i64 0) := (blk_cell BK245.out 4).trans rfl
             have hfs39 := blk_frozen BK245.out 4
             have hns39_0 := NB222_245.out
             have hms39_0 := NB245_222.out
             have hs40 : w34.cell? ⟨gb245, 5, none⟩ = some (.int .i64 0) := (blk_cell BK245.out 5).trans rfl
             have hfs40 := blk_frozen BK245.out 5
             have hns40_0 := NB222_245.out
             have hms40_0 := NB245_222.out
             have hs41 : w34.cell? ⟨gb245, 6, none⟩ = some (.int .i64 0) := (blk_cell BK245.out 6).trans rfl
             have hfs41 := blk_frozen BK245.out 6
             have hns41_0 := NB222_245.out
             have hms41_0 := NB245_222.out
             refine skip_ (w1 := ?_) (by rfl) rfl ?_ ?_
             rotate_left
             ·go_simp
              rfl
             have NE_ : ad238.block ≠ gb245 := Kd.own_blk (Kd.R_ne HO_3.out BK245.out (by decide))
             refine hK.out _ _ ⟨far7 hHeld.1 NE_, far7 hHeld.2.1 NE_, far7 hHeld.2.2.1 NE_, far7 hHeld.2.2.2.1 NE_, far7 hHeld.2.2.2.2.1 NE_, far7 hHeld.2.2.2.2.2.1 NE_, far7 hHeld.2.2.2.2.2.2 NE_⟩ (fun hHeld => ?_)
             clear hK K
             refine done_ (done_of HT_.out (by kernel_rfl)) ?_
             have hnb42 := NB245_222.out
             have hnc42 := NB222_245.out
             have hcz43_0 : w34.cell? ⟨gb245, 0, none⟩ = some (.int .i64 0) := (blk_cell BK245.out 0).trans rfl
             have hcz43_1 : w34.cell? ⟨gb245, 1, none⟩ = some (.int .i64 0) := (blk_cell BK245.out 1).trans rfl
             have hcz43_2 : w34.cell? ⟨gb245, 2, none⟩ = some (.int .i64 0) := (blk_cell BK245.out 2).trans rfl
             have hcz43_3 : w34.cell? ⟨gb245, 3, none⟩ = some (.int .i64 0) := (blk_cell BK245.out 3).trans rfl
             have hcz43_4 : w34.cell? ⟨gb245, 4, none⟩ = some (.int .i64 0) := (blk_cell BK245.out 4).trans rfl
             have hcz43_5 : w34.cell? ⟨gb245, 5, none⟩ = some (.int .i64 0) := (blk_cell BK245.out 5).trans rfl
             have hcz43_6 : w34.cell? ⟨gb245, 6, none⟩ = some (.int .i64 0) := (blk_cell BK245.out 6).trans rfl
             have hfz43_0 := blk_frozen BK245.out 0
             have hfz43_1 := blk_frozen BK245.out 1
             have hfz43_2 := blk_frozen BK245.out 2
             have hfz43_3 := blk_frozen BK245.out 3
             have hfz43_4 := blk_frozen BK245.out 4
             have hfz43_5 := blk_frozen BK245.out 5
             have hfz43_6 := blk_frozen BK245.out 6
             try go_wp2_with (first | ((with_reducible refine gate_callee (f := 37) rfl ?_); refine goesL_ (some 60) rfl rfl Tryd.func37 (by kernel_rfl) rfl #[.agg #[.int .i64 (rd x3_1 0), .int .i64 (rd x3_1 1), .int .i64 (rd x3_1 2), .int .i64 (rd x3_1 3), .int .i64 (rd x3_1 4), .int .i64 (rd x3_1 5), .int .i64 (rd x3_1 6)]] rfl (by (try simp only [List.map_toArray, List.map_cons, List.map_nil]); first | done | rfl | (simp only [List.length_drop, List.length_take]; rfl)) ?_; (with_reducible refine (impl_WayFault.calls k1 (rd x3_1 0) (rd x3_1 1) (rd x3_1 2) (rd x3_1 3) (rd x3_1 4) (rd x3_1 5) (rd x3_1 6) t246 _ A28.out).mono ?_); rintro e w44 ⟨rfl, hb⟩; refine ⟨_, rfl, ?_⟩; have n0_ := Aside0.mk (Kd.R_below (by (with_reducible repeat (first | apply Kd.R_alloc | apply Kd.R_drewN | apply Kd.R_drew)); exact (Kd.R_mono (Kd.R_far (p := ⟨gb245, 6, none⟩) (Kd.R_far (p := ⟨gb245, 5, none⟩) (Kd.R_far (p := ⟨gb245, 4, none⟩) (Kd.R_far (p := ⟨gb245, 3, none⟩) (Kd.R_far (p := ⟨gb245, 2, none⟩) (Kd.R_far (p := ⟨gb245, 1, none⟩) (Kd.R_far (p := ⟨gb245, 0, none⟩) (Kd.R_types HO_3.out BK245.out (by decide)) (fun _ hk => hk.2) (.int .i64 (rd x3_1 0))) (fun _ hk => hk.2) (.int .i64 (rd x3_1 1))) (fun _ hk => hk.2) (.int .i64 (rd x3_1 2))) (fun _ hk => hk.2) (.int .i64 (rd x3_1 3))) (fun _ hk => hk.2) (.int .i64 (rd x3_1 4))) (fun _ hk => hk.2) (.int .i64 (rd x3_1 5))) (fun _ hk => hk.2) (.int .i64 (rd x3_1 6))) (fun _ h_ => h_.1))) hb); have n1_ := Aside0.mk (Kd.R_below (by (with_reducible repeat (first | apply Kd.R_alloc | apply Kd.R_drewN | apply Kd.R_drew)); exact (Kd.R_mono (Kd.R_far (p := ⟨gb245, 6, none⟩) (Kd.R_far (p := ⟨gb245, 5, none⟩) (Kd.R_far (p := ⟨gb245, 4, none⟩) (Kd.R_far (p := ⟨gb245, 3, none⟩) (Kd.R_far (p := ⟨gb245, 2, none⟩) (Kd.R_far (p := ⟨gb245, 1, none⟩) (Kd.R_far (p := ⟨gb245, 0, none⟩) (Kd.R_types HO_11.out BK245.out (by decide)) (fun _ hk => hk.2) (.int .i64 (rd x3_1 0))) (fun _ hk => hk.2) (.int .i64 (rd x3_1 1))) (fun _ hk => hk.2) (.int .i64 (rd x3_1 2))) (fun _ hk => hk.2) (.int .i64 (rd x3_1 3))) (fun _ hk => hk.2) (.int .i64 (rd x3_1 4))) (fun _ hk => hk.2) (.int .i64 (rd x3_1 5))) (fun _ hk => hk.2) (.int .i64 (rd x3_1 6))) (fun _ h_ => h_.1))) hb); have n2_ := Aside0.mk (Kd.R_below (by (with_reducible repeat (first | apply Kd.R_alloc | apply Kd.R_drewN | apply Kd.R_drew)); exact (Kd.R_mono (Kd.R_far (p := ⟨gb245, 6, none⟩) (Kd.R_far (p := ⟨gb245, 5, none⟩) (Kd.R_far (p := ⟨gb245, 4, none⟩) (Kd.R_far (p := ⟨gb245, 3, none⟩) (Kd.R_far (p := ⟨gb245, 2, none⟩) (Kd.R_far (p := ⟨gb245, 1, none⟩) (Kd.R_far (p := ⟨gb245, 0, none⟩) (Kd.R_types HO237.out BK245.out (by decide)) (fun _ hk => hk.2) (.int .i64 (rd x3_1 0))) (fun _ hk => hk.2) (.int .i64 (rd x3_1 1))) (fun _ hk => hk.2) (.int .i64 (rd x3_1 2))) (fun _ hk => hk.2) (.int .i64 (rd x3_1 3))) (fun _ hk => hk.2) (.int .i64 (rd x3_1 4))) (fun _ hk => hk.2) (.int .i64 (rd x3_1 5))) (fun _ hk => hk.2) (.int .i64 (rd x3_1 6))) (fun _ h_ => h_.1))) hb); have n3_ := Aside0.mk (blk_below (g := gb222) (o := .cells #[.int .i64 x223000_1, .int .i64 x223001_1, .int .i64 x223002_1, .int .i64 x223003_1, .int .i64 x223004_1, .int .i64 x223005_1, .int .i64 x223006_1, .int .i64 x223007_1] 46 (0, 0)) (by (with_reducible repeat (first | refine blk_drewN ?_ _ | refine blk_drew ?_ | refine blk_alloc ?_ _)); refine blk_far ?_ NB222_245.out _; (with_reducible repeat (first | refine blk_drewN ?_ _ | refine blk_drew ?_ | refine blk_alloc ?_ _)); refine blk_far ?_ NB222_245.out _; (with_reducible repeat (first | refine blk_drewN ?_ _ | refine blk_drew ?_ | refine blk_alloc ?_ _)); refine blk_far ?_ NB222_245.out _; (with_reducible repeat (first | refine blk_drewN ?_ _ | refine blk_drew ?_ | refine blk_alloc ?_ _)); refine blk_far ?_ NB222_245.out _; (with_reducible repeat (first | refine blk_drewN ?_ _ | refine blk_drew ?_ | refine blk_alloc ?_ _)); refine blk_far ?_ NB222_245.out _; (with_reducible repeat (first | refine blk_drewN ?_ _ | refine blk_drew ?_ | refine blk_alloc ?_ _)); refine blk_far ?_ NB222_245.out _; (with_reducible repeat (first | refine blk_drewN ?_ _ | refine blk_drew ?_ | refine blk_alloc ?_ _)); refine blk_far ?_ NB222_245.out _; (with_reducible repeat (first | refine blk_drewN ?_ _ | refine blk_drew ?_ | refine blk_alloc ?_ _)); exact BK222.out) hb); have n4_ := Aside0.mk (blk_below (g := gb245) (o := .cells #[.int .i64 (rd x3_1 0), .int .i64 (rd x3_1 1), .int .i64 (rd x3_1 2), .int .i64 (rd x3_1 3), .int .i64 (rd x3_1 4), .int .i64 (rd x3_1 5), .int .i64 (rd x3_1 6)] 41 (0, 0)) (by (with_reducible repeat (first | refine blk_drewN ?_ _ | refine blk_drew ?_ | refine blk_alloc ?_ _)); refine blk_put (cs := #[.int .i64 (rd x3_1 0), .int .i64 (rd x3_1 1), .int .i64 (rd x3_1 2), .int .i64 (rd x3_1 3), .int .i64 (rd x3_1 4), .int .i64 (rd x3_1 5), .int .i64 0]) ?_ 6 _ rfl; (with_reducible repeat (first | refine blk_drewN ?_ _ | refine blk_drew ?_ | refine blk_alloc ?_ _)); refine blk_put (cs := #[.int .i64 (rd x3_1 0), .int .i64 (rd x3_1 1), .int .i64 (rd x3_1 2), .int .i64 (rd x3_1 3), .int .i64 (rd x3_1 4), .int .i64 0, .int .i64 0]) ?_ 5 _ rfl; (with_reducible repeat (first | refine blk_drewN ?_ _ | refine blk_drew ?_ | refine blk_alloc ?_ _)); refine blk_put (cs := #[.int .i64 (rd x3_1 0), .int .i64 (rd x3_1 1), .int .i64 (rd x3_1 2), .int .i64 (rd x3_1 3), .int .i64 0, .int .i64 0, .int .i64 0]) ?_ 4 _ rfl; (with_reducible repeat (first | refine blk_drewN ?_ _ | refine blk_drew ?_ | refine blk_alloc ?_ _)); refine blk_put (cs := #[.int .i64 (rd x3_1 0), .int .i64 (rd x3_1 1), .int .i64 (rd x3_1 2), .int .i64 0, .int .i64 0, .int .i64 0, .int .i64 0]) ?_ 3 _ rfl; (with_reducible repeat (first | refine blk_drewN ?_ _ | refine blk_drew ?_ | refine blk_alloc ?_ _)); refine blk_put (cs := #[.int .i64 (rd x3_1 0), .int .i64 (rd x3_1 1), .int .i64 0, .int .i64 0, .int .i64 0, .int .i64 0, .int .i64 0]) ?_ 2 _ rfl; (with_reducible repeat (first | refine blk_drewN ?_ _ | refine blk_drew ?_ | refine blk_alloc ?_ _)); refine blk_put (cs := #[.int .i64 (rd x3_1 0), .int .i64 0, .int .i64 0, .int .i64 0, .int .i64 0, .int .i64 0, .int .i64 0]) ?_ 1 _ rfl; (with_reducible repeat (first | refine blk_drewN ?_ _ | refine blk_drew ?_ | refine blk_alloc ?_ _)); refine blk_put (cs := #[.int .i64 0, .int .i64 0, .int .i64 0, .int .i64 0, .int .i64 0, .int .i64 0, .int .i64 0]) ?_ 0 _ rfl; (with_reducible repeat (first | refine blk_drewN ?_ _ | refine blk_drew ?_ | refine blk_alloc ?_ _)); exact BK245.out) hb); have n5_ := Aside0.mk (below_step (by repeat (first | (with_reducible first | exact HB.out | apply below_alloc | apply pw_below_drewN | apply below_drew1 | refine below_set ?_ GE222.out | refine below_set ?_ GE245.out) | exact HB.out)) hb); clear HO_3; clear HO_11; clear HO237; clear BK222; clear BK245; clear HB; have HO_3 := n0_; have HO_11 := n1_; have HO237 := n2_; have BK222 := n3_; have BK245 := n4_; have HB := n5_; clear n0_ n1_ n2_ n3_ n4_ n5_; (try clear hb); (try clear hb2); (try clear hk); (try clear hi); have hcz45_0 : w44.cell? ⟨gb245, 0, none⟩ = some (.int .i64 (rd x3_1 0)) := (blk_cell BK245.out 0).trans rfl; have hcz45_1 : w44.cell? ⟨gb245, 1, none⟩ = some (.int .i64 (rd x3_1 1)) := (blk_cell BK245.out 1).trans rfl; have hcz45_2 : w44.cell? ⟨gb245, 2, none⟩ = some (.int .i64 (rd x3_1 2)) := (blk_cell BK245.out 2).trans rfl; have hcz45_3 : w44.cell? ⟨gb245, 3, none⟩ = some (.int .i64 (rd x3_1 3)) := (blk_cell BK245.out 3).trans rfl; have hcz45_4 : w44.cell? ⟨gb245, 4, none⟩ = some (.int .i64 (rd x3_1 4)) := (blk_cell BK245.out 4).trans rfl; have hcz45_5 : w44.cell? ⟨gb245, 5, none⟩ = some (.int .i64 (rd x3_1 5)) := (blk_cell BK245.out 5).trans rfl; have hcz45_6 : w44.cell? ⟨gb245, 6, none⟩ = some (.int .i64 (rd x3_1 6)) := (blk_cell BK245.out 6).trans rfl; have hfz45_0 := blk_frozen BK245.out 0; have hfz45_1 := blk_frozen BK245.out 1; have hfz45_2 := blk_frozen BK245.out 2; have hfz45_3 := blk_frozen BK245.out 3; have hfz45_4 := blk_frozen BK245.out 4; have hfz45_5 := blk_frozen BK245.out 5; have hfz45_6 := blk_frozen BK245.out 6; have hcz46_0 : w44.cell? ⟨gb222, 0, none⟩ = some (.int .i64 x223000_1) := (blk_cell BK222.out 0).trans rfl; have hcz46_1 : w44.cell? ⟨gb222, 1, none⟩ = some (.int .i64 x223001_1) := (blk_cell BK222.out 1).trans rfl; have hcz46_2 : w44.cell? ⟨gb222, 2, none⟩ = some (.int .i64 x223002_1) := (blk_cell BK222.out 2).trans rfl; have hcz46_3 : w44.cell? ⟨gb222, 3, none⟩ = some (.int .i64 x223003_1) := (blk_cell BK222.out 3).trans rfl; have hcz46_4 : w44.cell? ⟨gb222, 4, none⟩ = some (.int .i64 x223004_1) := (blk_cell BK222.out 4).trans rfl; have hcz46_5 : w44.cell? ⟨gb222, 5, none⟩ = some (.int .i64 x223005_1) := (blk_cell BK222.out 5).trans rfl; have hcz46_6 : w44.cell? ⟨gb222, 6, none⟩ = some (.int .i64 x223006_1) := (blk_cell BK222.out 6).trans rfl; have hcz46_7 : w44.cell? ⟨gb222, 7, none⟩ = some (.int .i64 x223007_1) := (blk_cell BK222.out 7).trans rfl; have hfz46_0 := blk_frozen BK222.out 0; have hfz46_1 := blk_frozen BK222.out 1; have hfz46_2 := blk_frozen BK222.out 2; have hfz46_3 := blk_frozen BK222.out 3; have hfz46_4 := blk_frozen BK222.out 4; have hfz46_5 := blk_frozen BK222.out 5; have hfz46_6 := blk_frozen BK222.out 6; have hfz46_7 := blk_frozen BK222.out 7) | ((with_reducible refine gate_store (t := 46) (p := 2) rfl ?_); refine Go.Proofs.YtpoafgokngpglaaDoorCells.store_whole (ty := 46) (x := .tmp 2) (y := ?vo_w47) (g := gb222) (cells := [.int .i64 0, .int .i64 (rd x3_1 0), .int .i64 (rd x3_1 1), .int .i64 (rd x3_1 2), .int .i64 (rd x3_1 3), .int .i64 (rd x3_1 4), .int .i64 (rd x3_1 5), .int .i64 (rd x3_1 6)]) (t := 46) (old := [.int .i64 x223000_1, .int .i64 x223001_1, .int .i64 x223002_1, .int .i64 x223003_1, .int .i64 x223004_1, .int .i64 x223005_1, .int .i64 x223006_1, .int .i64 x223007_1]) ?hg ?ho ?hx ?hy ?hn ?hb ?hi rfl rfl ?_; (case ho => rfl); (case hg => rfl); (case hn => rfl); (case hx => rfl); (case hy => first | rfl | (go_simp; done) | (simp [*]; done)); (case hb => exact (by (with_reducible repeat (first | refine blk_drewN ?_ _ | refine blk_drew ?_ | refine blk_alloc ?_ _)); exact BK222.out)); (case hi => kernel_rfl); intro w47 hob_ hbk hfar hbel; have n0_ : Aside0 (Kd.R (Kd.int .i64) 2 w47 w.heap.size (fun k_ => some k_ ≠ (.slice Ao32 t235.length co32 : Value).ownBlock) (.slice (some ad238) x3_1.length co30) x3_1) := ⟨Go.Proofs.YtpoafgokngpglaaDoorCells.R_whole (by (with_reducible repeat (first | apply Kd.R_alloc | apply Kd.R_drewN | apply Kd.R_drew)); exact Kd.R_mono HO_3.out (fun _ hk => hk.2)) hob_ (by decide) hfar⟩; have n1_ : Aside0 (Kd.R Kd.string 9 w47 w.heap.size (fun _ => True) (.slice Ao7 t226.length co7) t226) := ⟨Go.Proofs.YtpoafgokngpglaaDoorCells.R_whole (by (with_reducible repeat (first | apply Kd.R_alloc | apply Kd.R_drewN | apply Kd.R_drew)); exact HO_11.out) hob_ (by decide) hfar⟩; have n2_ : Aside0 (Kd.R (Kd.int .i64) 2 w47 w.heap.size (fun k_ => some k_ ≠ (.slice (some ad238) x3_1.length co30 : Value).ownBlock) (.slice Ao32 t235.length co32) t235) := ⟨Go.Proofs.YtpoafgokngpglaaDoorCells.R_whole (by (with_reducible repeat (first | apply Kd.R_alloc | apply Kd.R_drewN | apply Kd.R_drew)); exact Kd.R_mono HO237.out (fun _ hk => hk.2)) hob_ (by decide) hfar⟩; have n3_ : Aside0 (w47.heap[gb222]? = some (.cells #[.int .i64 0, .int .i64 (rd x3_1 0), .int .i64 (rd x3_1 1), .int .i64 (rd x3_1 2), .int .i64 (rd x3_1 3), .int .i64 (rd x3_1 4), .int .i64 (rd x3_1 5), .int .i64 (rd x3_1 6)] 46 (0, 0))) := ⟨hbk⟩; have n4_ : Aside0 (w47.heap[gb245]? = some (.cells #[.int .i64 (rd x3_1 0), .int .i64 (rd x3_1 1), .int .i64 (rd x3_1 2), .int .i64 (rd x3_1 3), .int .i64 (rd x3_1 4), .int .i64 (rd x3_1 5), .int .i64 (rd x3_1 6)] 41 (0, 0))) := ⟨(hfar _ NB245_222.out).trans (by (with_reducible repeat (first | refine blk_drewN ?_ _ | refine blk_drew ?_ | refine blk_alloc ?_ _)); exact BK245.out)⟩; have n5_ : Aside0 (Below w.heap.size w w47) := ⟨hbel _ _ GE222.out (by repeat (first | (with_reducible first | exact HB.out | apply below_alloc | apply pw_below_drewN | apply below_drew1 | refine below_set ?_ GE222.out | refine below_set ?_ GE245.out) | exact HB.out))⟩; clear hob_ hbk hfar hbel; clear HO_3; clear HO_11; clear HO237; clear BK222; clear BK245; clear HB; have HO_3 := n0_; have HO_11 := n1_; have HO237 := n2_; have BK222 := n3_; have BK245 := n4_; have HB := n5_; clear n0_ n1_ n2_ n3_ n4_ n5_))
             refine bodyPost_ret (results_cell_row rfl _ _ gb222 46 #[.int .i64 0, .int .i64 (rd x3_1 0), .int .i64 (rd x3_1 1), .int .i64 (rd x3_1 2), .int .i64 (rd x3_1 3), .int .i64 (rd x3_1 4), .int .i64 (rd x3_1 5), .int .i64 (rd x3_1 6)] (0, 0) _ rfl (by (with_reducible repeat (first | refine blk_drewN ?_ _ | refine blk_drew ?_ | refine blk_alloc ?_ _)); exact BK222.out) Tryd.underlying46 rfl (by kernel_rfl)) rfl ?_
             exact ⟨by first | rfl | (simp [errW_none, errW_some] <;> rfl) | (simp [*, errW_none, errW_some] <;> rfl), by repeat (first | (with_reducible first | exact HB.out | apply below_alloc | apply pw_below_drewN | apply below_drew1 | refine below_set ?_ GE222.out | refine below_set ?_ GE245.out) | exact HB.out)⟩
            ·rw [if_neg c29] at H
             have c29b0 : (t246 == 0) = false := beq_eq_false_iff_ne.mpr c29
             have c29b1 : (t246 != 0) = true := bne_iff_ne.mpr c29
             simp only [Option.some.injEq, Prod.mk.injEq] at H
             obtain ⟨rfl, rfl, rfl, rfl, rfl, rfl, rfl, rfl⟩ := H
             obtain ⟨Ao48, co48, eo48⟩ := Kd.R_slice HO_3.out
             subst eo48
             try go_wp2_with (first | ((with_reducible refine gate_callee (f := 66) rfl ?_); refine goesL_ (some 33) rfl rfl Tryd.func66 (by kernel_rfl) rfl #[.agg #[.int .i64 0, .int .i64 0, .int .i64 0, .int .i64 0, .int .i64 0, .int .i64 0, .int .i64 0]] rfl (by (try simp only [List.map_toArray, List.map_cons, List.map_nil]); first | done | rfl | (simp only [List.length_drop, List.length_take]; rfl)) ?_; (with_reducible refine (impl_Way_numbers.calls 0 0 0 0 0 0 0 t235 _ A19.out).mono ?_); rintro e w49 ⟨v236, rfl, ho0, hb⟩; refine ⟨_, rfl, ?_⟩; have n0_ := Aside0.mk (Kd.R_elder' (by (with_reducible repeat (first | apply Kd.R_alloc | apply Kd.R_drewN | apply Kd.R_drew)); exact HO_3.out) (Kd.R_base ho0) hb); have n1_ := Aside0.mk (Kd.R_below (by (with_reducible repeat (first | apply Kd.R_alloc | apply Kd.R_drewN | apply Kd.R_drew)); exact HO_11.out) hb); have n2_ := Aside0.mk (Kd.R_lower (Kd.R_new' ho0 (Kd.R_lt (by (with_reducible repeat (first | apply Kd.R_alloc | apply Kd.R_drewN | apply Kd.R_drew)); exact HO_3.out))) (below_size (by repeat (first | (with_reducible first | exact HB.out | apply below_alloc | apply pw_below_drewN | apply below_drew1 | refine below_set ?_ GE222.out) | exact HB.out)))); have n3_ := Aside0.mk (blkb hb BK222.out); have n4_ := Aside0.mk (below_step (by repeat (first | (with_reducible first | exact HB.out | apply below_alloc | apply pw_below_drewN | apply below_drew1 | refine below_set ?_ GE222.out) | exact HB.out)) hb); clear HO_3; clear HO_11; clear BK222; clear HB; have HO_3 := n0_; have HO_11 := n1_; have HO237 := n2_; have BK222 := n3_; have HB := n4_; clear n0_ n1_ n2_ n3_ n4_; (try clear hb); (try clear hb2); (try clear hk); (try clear hi); (try clear ho0); obtain ⟨Ao50, co50, eo50⟩ := Kd.R_slice HO237.out; subst eo50))
             have n0_ := Aside0.mk (Kd.R_drew HO_3.out)
             have n1_ := Aside0.mk (Kd.R_drew HO_11.out)
             have n2_ := Aside0.mk (Kd.R_drew HO237.out)
             have n3_ := Aside0.mk (blk_drew BK222.out)
             have n4_ := Aside0.mk (below_drew1 HB.out)
             clear HO_3
             clear HO_11
             clear HO237
             clear BK222
             clear HB
             have HO_3 := n0_
             have HO_11 := n1_
             have HO237 := n2_
             have BK222 := n3_
             have HB := n4_
             clear n0_ n1_ n2_ n3_ n4_
             have p238 : 0 ≤ (0 : Int) := (by omega)
             have q238 : 0 < (x3_1.length : Int) := of_decide_eq_true (by first | (with_reducible assumption) | assumption)
             obtain ⟨ad238, e238, hx238_0⟩ := Kd.at_int (Kd.R_reads' HO_3.out).2.2 0 p238 q238
             cases e238
             have qi238 : (0 < x3_1.length) = True := eq_true (by omega)
             (try rw [show ((0 : Int)).toNat = 0 from rfl] at hx238_0)
             (try rw [Addr.add_zero'] at hx238_0)
             replace p238 := eq_true p238
             replace q238 := eq_true q238
             have p239 : 0 ≤ (1 : Int) := (by omega)
             have q239 : 1 < (x3_1.length : Int) := of_decide_eq_true (by first | (with_reducible assumption) | assumption)
             obtain ⟨ad239, e239, hx239_0⟩ := Kd.at_int (Kd.R_reads' HO_3.out).2.2 1 p239 q239
             obtain rfl : ad238 = ad239 := (by injection e239)
             (try simp only [show (1 : Int).toNat = 1 from rfl, Nat.reduceMul, Nat.reduceEqDiff, Go.Addr.add, ↓reduceIte] at hx239_0)
             have qi239 : (1 < x3_1.length) = True := eq_true (by omega)
             (try rw [show ((1 : Int)).toNat = 1 from rfl] at hx239_0)
             replace p239 := eq_true p239
             replace q239 := eq_true q239
             have p240 : 0 ≤ (2 : Int) := (by omega)
             have q240 : 2 < (x3_1.length : Int) := of_decide_eq_true (by first | (with_reducible assumption) | assumption)
             obtain ⟨ad240, e240, hx240_0⟩ := Kd.at_int (Kd.R_reads' HO_3.out).2.2 2 p240 q240
             obtain rfl : ad238 = ad240 := (by injection e240)
             (try simp only [show (2 : Int).toNat = 2 from rfl, Nat.reduceMul, Nat.reduceEqDiff, Go.Addr.add, ↓reduceIte] at hx240_0)
             have qi240 : (2 < x3_1.length) = True := eq_true (by omega)
             (try rw [show ((2 : Int)).toNat = 2 from rfl] at hx240_0)
             replace p240 := eq_true p240
             replace q240 := eq_true q240
             have p241 : 0 ≤ (3 : Int) := (by omega)
             have q241 : 3 < (x3_1.length : Int) := of_decide_eq_true (by first | (with_reducible assumption) | assumption)
             obtain ⟨ad241, e241, hx241_0⟩ := Kd.at_int (Kd.R_reads' HO_3.out).2.2 3 p241 q241
             obtain rfl : ad238 = ad241 := (by injection e241)
             (try simp only [show (3 : Int).toNat = 3 from rfl, Nat.reduceMul, Nat.reduceEqDiff, Go.Addr.add, ↓reduceIte] at hx241_0)
             have qi241 : (3 < x3_1.length) = True := eq_true (by omega)
             (try rw [show ((3 : Int)).toNat = 3 from rfl] at hx241_0)
             replace p241 := eq_true p241
             replace q241 := eq_true q241
             have p242 : 0 ≤ (4 : Int) := (by omega)
             have q242 : 4 < (x3_1.length : Int) := of_decide_eq_true (by first | (with_reducible assumption) | assumption)
             obtain ⟨ad242, e242, hx242_0⟩ := Kd.at_int (Kd.R_reads' HO_3.out).2.2 4 p242 q242
             obtain rfl : ad238 = ad242 := (by injection e242)
             (try simp only [show (4 : Int).toNat = 4 from rfl, Nat.reduceMul, Nat.reduceEqDiff, Go.Addr.add, ↓reduceIte] at hx242_0)
             have qi242 : (4 < x3_1.length) = True := eq_true (by omega)
             (try rw [show ((4 : Int)).toNat = 4 from rfl] at hx242_0)
             replace p242 := eq_true p242
             replace q242 := eq_true q242
             have p243 : 0 ≤ (5 : Int) := (by omega)
             have q243 : 5 < (x3_1.length : Int) := of_decide_eq_true (by first | (with_reducible assumption) | assumption)
             obtain ⟨ad243, e243, hx243_0⟩ := Kd.at_int (Kd.R_reads' HO_3.out).2.2 5 p243 q243
             obtain rfl : ad238 = ad243 := (by injection e243)
             (try simp only [show (5 : Int).toNat = 5 from rfl, Nat.reduceMul, Nat.reduceEqDiff, Go.Addr.add, ↓reduceIte] at hx243_0)
             have qi243 : (5 < x3_1.length) = True := eq_true (by omega)
             (try rw [show ((5 : Int)).toNat = 5 from rfl] at hx243_0)
             replace p243 := eq_true p243
             replace q243 := eq_true q243
             have p244 : 0 ≤ (6 : Int) := (by omega)
             have q244 : 6 < (x3_1.length : Int) := of_decide_eq_true (by first | (with_reducible assumption) | assumption)
             obtain ⟨ad244, e244, hx244_0⟩ := Kd.at_int (Kd.R_reads' HO_3.out).2.2 6 p244 q244
             obtain rfl : ad238 = ad244 := (by injection e244)
             (try simp only [show (6 : Int).toNat = 6 from rfl, Nat.reduceMul, Nat.reduceEqDiff, Go.Addr.add, ↓reduceIte] at hx244_0)
             have qi244 : (6 < x3_1.length) = True := eq_true (by omega)
             (try rw [show ((6 : Int)).toNat = 6 from rfl] at hx244_0)
             replace p244 := eq_true p244
             replace q244 := eq_true q244
             refine start_ (n := 24) (S := fun w' => w'.cell? ad238 = some (.int .i64 (rd x3_1 0)) ∧ w'.cell? ⟨ad238.block, ad238.off + 1, none⟩ = some (.int .i64 (rd x3_1 1)) ∧ w'.cell? ⟨ad238.block, ad238.off + 2, none⟩ = some (.int .i64 (rd x3_1 2)) ∧ w'.cell? ⟨ad238.block, ad238.off + 3, none⟩ = some (.int .i64 (rd x3_1 3)) ∧ w'.cell? ⟨ad238.block, ad238.off + 4, none⟩ = some (.int .i64 (rd x3_1 4)) ∧ w'.cell? ⟨ad238.block, ad238.off + 5, none⟩ = some (.int .i64 (rd x3_1 5)) ∧ w'.cell? ⟨ad238.block, ad238.off + 6, none⟩ = some (.int .i64 (rd x3_1 6))) (ds := []) #[false, false, false, false, false, false, false, false, false, false, false, false, false, false, false, false, false, false, false, false, false, false, false, false] (by kernel_rfl) rfl rfl ⟨hx238_0, hx239_0, hx240_0, hx241_0, hx242_0, hx243_0, hx244_0⟩ (fun hHeld => ?_); refine with_tabW impl_ParseWay.tab12 impl_ParseWay.bits12 (fun HT_ HW_ => ?_)
             generalize w49.drew = w51 at HO_3 HO_11 HO237 BK222 HB hx238_0 hx239_0 hx240_0 hx241_0 hx242_0 hx243_0 hx244_0 hHeld ⊢
             refine pure_ (i := 0) (N := some 37) (v := ?_) (a' := ?_) #[true, false, false, false, false, false, false, false, false, false, false, false, false, false, false, false, false, false, false, false, false, false, false, false] rfl rfl (any_of HT_.out (by kernel_rfl)) (fun _ _ _ h => h) (Or.inl ⟨by rfl, ?_⟩) ?_ ?_
             rotate_left
             ·intro w'
              go_simp
              with_reducible rfl
             rotate_left
             ·simp only [Act.put, List.setIfInBounds_toArray, List.set_cons_zero, List.set_cons_succ, i64_w, i32_w]
              rfl
             refine pure_ (i := 1) (N := some 38) (v := ?_) (a' := ?_) #[true, true, false, false, false, false, false, false, false, false, false, false, false, false, false, false, false, false, false, false, false, false, false, false] rfl rfl (any_of HT_.out (by kernel_rfl)) (fun _ _ _ h => h) (Or.inl ⟨by rfl, ?_⟩) ?_ ?_
             rotate_left
             ·intro w'
              go_simp
              with_reducible rfl
             rotate_left
             ·simp only [Act.put, List.setIfInBounds_toArray, List.set_cons_zero, List.set_cons_succ, i64_w, i32_w]
              rfl
             refine pure_ (i := 3) (N := some 40) (v := ?_) (a' := ?_) #[true, true, false, true, false, false, false, false, false, false, false, false, false, false, false, false, false, false, false, false, false, false, false, false] rfl rfl (any_of HT_.out (by kernel_rfl)) (fun _ _ _ h => h) (Or.inl ⟨by rfl, ?_⟩) ?_ ?_
             rotate_left
             ·intro w'
              go_simp
              with_reducible rfl
             rotate_left
             ·simp only [Act.put, List.setIfInBounds_toArray, List.set_cons_zero, List.set_cons_succ, i64_w, i32_w]
              rfl
             refine pure_ (i := 4) (N := some 41) (v := ?_) (a' := ?_) #[true, true, false, true, true, false, false, false, false, false, false, false, false, false, false, false, false, false, false, false, false, false, false, false] rfl rfl (any_of HT_.out (by kernel_rfl)) (fun _ _ _ h => h) (Or.inl ⟨by rfl, ?_⟩) ?_ ?_
             rotate_left
             ·intro w'
              go_simp
              with_reducible rfl
             rotate_left
             ·simp only [Act.put, List.setIfInBounds_toArray, List.set_cons_zero, List.set_cons_succ, i64_w, i32_w]
              rfl
             refine pure_ (i := 6) (N := some 43) (v := ?_) (a' := ?_) #[true, true, false, true, true, false, true, false, false, false, false, false, false, false, false, false, false, false, false, false, false, false, false, false] rfl rfl (any_of HT_.out (by kernel_rfl)) (fun _ _ _ h => h) (Or.inl ⟨by rfl, ?_⟩) ?_ ?_
             rotate_left
             ·intro w'
              go_simp
              with_reducible rfl
             rotate_left
             ·simp only [Act.put, List.setIfInBounds_toArray, List.set_cons_zero, List.set_cons_succ, i64_w, i32_w]
              rfl
             refine pure_ (i := 7) (N := some 44) (v := ?_) (a' := ?_) #[true, true, false, true, true, false, true, true, false, false, false, false, false, false, false, false, false, false, false, false, false, false, false, false] rfl rfl (any_of HT_.out (by kernel_rfl)) (fun _ _ _ h => h) (Or.inl ⟨by rfl, ?_⟩) ?_ ?_
             rotate_left
             ·intro w'
              go_simp
              with_reducible rfl
             rotate_left
             ·simp only [Act.put, List.setIfInBounds_toArray, List.set_cons_zero, List.set_cons_succ, i64_w, i32_w]
              rfl
             refine pure_ (i := 9) (N := some 46) (v := ?_) (a' := ?_) #[true, true, false, true, true, false, true, true, false, true, false, false, false, false, false, false, false, false, false, false, false, false, false, false] rfl rfl (any_of HT_.out (by kernel_rfl)) (fun _ _ _ h => h) (Or.inl ⟨by rfl, ?_⟩) ?_ ?_
             rotate_left
             ·intro w'
              go_simp
              with_reducible rfl
             rotate_left
             ·simp only [Act.put, List.setIfInBounds_toArray, List.set_cons_zero, List.set_cons_succ, i64_w, i32_w]
              rfl
             refine pure_ (i := 10) (N := some 47) (v := ?_) (a' := ?_) #[true, true, false, true, true, false, true, true, false, true, true, false, false, false, false, false, false, false, false, false, false, false, false, false] rfl rfl (any_of HT_.out (by kernel_rfl)) (fun _ _ _ h => h) (Or.inl ⟨by rfl, ?_⟩) ?_ ?_
             rotate_left
             ·intro w'
              go_simp
              with_reducible rfl
             rotate_left
             ·simp only [Act.put, List.setIfInBounds_toArray, List.set_cons_zero, List.set_cons_succ, i64_w, i32_w]
              rfl
             refine pure_ (i := 12) (N := some 49) (v := ?_) (a' := ?_) #[true, true, false, true, true, false, true, true, false, true, true, false, true, false, false, false, false, false, false, false, false, false, false, false] rfl rfl (any_of HT_.out (by kernel_rfl)) (fun _ _ _ h => h) (Or.inl ⟨by rfl, ?_⟩) ?_ ?_
             rotate_left
             ·intro w'
              go_simp
              with_reducible rfl
             rotate_left
             ·simp only [Act.put, List.setIfInBounds_toArray, List.set_cons_zero, List.set_cons_succ, i64_w, i32_w]
              rfl
             refine pure_ (i := 13) (N := some 50) (v := ?_) (a' := ?_) #[true, true, false, true, true, false, true, true, false, true, true, false, true, true, false, false, false, false, false, false, false, false, false, false] rfl rfl (any_of HT_.out (by kernel_rfl)) (fun _ _ _ h => h) (Or.inl ⟨by rfl, ?_⟩) ?_ ?_
             rotate_left
             ·intro w'
              go_simp
              with_reducible rfl
             rotate_left
             ·simp only [Act.put, List.setIfInBounds_toArray, List.set_cons_zero, List.set_cons_succ, i64_w, i32_w]
              rfl
             refine pure_ (i := 15) (N := some 52) (v := ?_) (a' := ?_) #[true, true, false, true, true, false, true, true, false, true, true, false, true, true, false, true, false, false, false, false, false, false, false, false] rfl rfl (any_of HT_.out (by kernel_rfl)) (fun _ _ _ h => h) (Or.inl ⟨by rfl, ?_⟩) ?_ ?_
             rotate_left
             ·intro w'
              go_simp
              with_reducible rfl
             rotate_left
             ·simp only [Act.put, List.setIfInBounds_toArray, List.set_cons_zero, List.set_cons_succ, i64_w, i32_w]
              rfl
             refine pure_ (i := 16) (N := some 53) (v := ?_) (a' := ?_) #[true, true, false, true, true, false, true, true, false, true, true, false, true, true, false, true, true, false, false, false, false, false, false, false] rfl rfl (any_of HT_.out (by kernel_rfl)) (fun _ _ _ h => h) (Or.inl ⟨by rfl, ?_⟩) ?_ ?_
             rotate_left
             ·intro w'
              go_simp
              with_reducible rfl
             rotate_left
             ·simp only [Act.put, List.setIfInBounds_toArray, List.set_cons_zero, List.set_cons_succ, i64_w, i32_w]
              rfl
             refine pure_ (i := 18) (N := some 55) (v := ?_) (a' := ?_) #[true, true, false, true, true, false, true, true, false, true, true, false, true, true, false, true, true, false, true, false, false, false, false, false] rfl rfl (any_of HT_.out (by kernel_rfl)) (fun _ _ _ h => h) (Or.inl ⟨by rfl, ?_⟩) ?_ ?_
             rotate_left
             ·intro w'
              go_simp
              with_reducible rfl
             rotate_left
             ·simp only [Act.put, List.setIfInBounds_toArray, List.set_cons_zero, List.set_cons_succ, i64_w, i32_w]
              rfl
             refine pure_ (i := 19) (N := some 56) (v := ?_) (a' := ?_) #[true, true, false, true, true, false, true, true, false, true, true, false, true, true, false, true, true, false, true, true, false, false, false, false] rfl rfl (any_of HT_.out (by kernel_rfl)) (fun _ _ _ h => h) (Or.inl ⟨by rfl, ?_⟩) ?_ ?_
             rotate_left
             ·intro w'
              go_simp
              with_reducible rfl
             rotate_left
             ·simp only [Act.put, List.setIfInBounds_toArray, List.set_cons_zero, List.set_cons_succ, i64_w, i32_w]
              rfl
             refine take_ (i := 2) (N := some 39) (v := ?_) (a' := ?_) #[true, true, true, true, true, false, true, true, false, true, true, false, true, true, false, true, true, false, true, true, false, false, false, false] rfl rfl (take_ofW HT_.out HW_.out (by kernel_rfl)) (fun _ _ _ h => h) (Or.inl ⟨by rfl, ?_⟩) hHeld ?_ ?_
             rotate_left
             ·rintro w' ⟨s0, s1, s2, s3, s4, s5, s6⟩
              go_simp
              with_reducible rfl
             rotate_left
             ·simp only [Act.put, List.setIfInBounds_toArray, List.set_cons_zero, List.set_cons_succ, i64_w, i32_w]
              rfl
             refine take_ (i := 5) (N := some 42) (v := ?_) (a' := ?_) #[true, true, true, true, true, true, true, true, false, true, true, false, true, true, false, true, true, false, true, true, false, false, false, false] rfl rfl (take_ofW HT_.out HW_.out (by kernel_rfl)) (fun _ _ _ h => h) (Or.inl ⟨by rfl, ?_⟩) hHeld ?_ ?_
             rotate_left
             ·rintro w' ⟨s0, s1, s2, s3, s4, s5, s6⟩
              go_simp
              with_reducible rfl
             rotate_left
             ·simp only [Act.put, List.setIfInBounds_toArray, List.set_cons_zero, List.set_cons_succ, i64_w, i32_w]
              rfl
             refine take_ (i := 8) (N := some 45) (v := ?_) (a' := ?_) #[true, true, true, true, true, true, true, true, true, true, true, false, true, true, false, true, true, false, true, true, false, false, false, false] rfl rfl (take_ofW HT_.out HW_.out (by kernel_rfl)) (fun _ _ _ h => h) (Or.inl ⟨by rfl, ?_⟩) hHeld ?_ ?_
             rotate_left
             ·rintro w' ⟨s0, s1, s2, s3, s4, s5, s6⟩
              go_simp
              with_reducible rfl
             rotate_left
             ·simp only [Act.put, List.setIfInBounds_toArray, List.set_cons_zero, List.set_cons_succ, i64_w, i32_w]
              rfl
             refine take_ (i := 11) (N := some 48) (v := ?_) (a' := ?_) #[true, true, true, true, true, true, true, true, true, true, true, true, true, true, false, true, true, false, true, true, false, false, false, false] rfl rfl (take_ofW HT_.out HW_.out (by kernel_rfl)) (fun _ _ _ h => h) (Or.inl ⟨by rfl, ?_⟩) hHeld ?_ ?_
             rotate_left
             ·rintro w' ⟨s0, s1, s2, s3, s4, s5, s6⟩
              go_simp
              with_reducible rfl
             rotate_left
             ·simp only [Act.put, List.setIfInBounds_toArray, List.set_cons_zero, List.set_cons_succ, i64_w, i32_w]
              rfl
             refine take_ (i := 14) (N := some 51) (v := ?_) (a' := ?_) #[true, true, true, true, true, true, true, true, true, true, true, true, true, true, true, true, true, false, true, true, false, false, false, false] rfl rfl (take_ofW HT_.out HW_.out (by kernel_rfl)) (fun _ _ _ h => h) (Or.inl ⟨by rfl, ?_⟩) hHeld ?_ ?_
             rotate_left
             ·rintro w' ⟨s0, s1, s2, s3, s4, s5, s6⟩
              go_simp
              with_reducible rfl
             rotate_left
             ·simp only [Act.put, List.setIfInBounds_toArray, List.set_cons_zero, List.set_cons_succ, i64_w, i32_w]
              rfl
             refine take_ (i := 17) (N := some 54) (v := ?_) (a' := ?_) #[true, true, true, true, true, true, true, true, true, true, true, true, true, true, true, true, true, true, true, true, false, false, false, false] rfl rfl (take_ofW HT_.out HW_.out (by kernel_rfl)) (fun _ _ _ h => h) (Or.inl ⟨by rfl, ?_⟩) hHeld ?_ ?_
             rotate_left
             ·rintro w' ⟨s0, s1, s2, s3, s4, s5, s6⟩
              go_simp
              with_reducible rfl
             rotate_left
             ·simp only [Act.put, List.setIfInBounds_toArray, List.set_cons_zero, List.set_cons_succ, i64_w, i32_w]
              rfl
             refine take_ (i := 20) (N := some 57) (v := ?_) (a' := ?_) #[true, true, true, true, true, true, true, true, true, true, true, true, true, true, true, true, true, true, true, true, true, false, false, false] rfl rfl (take_ofW HT_.out HW_.out (by kernel_rfl)) (fun _ _ _ h => h) (Or.inl ⟨by rfl, ?_⟩) hHeld ?_ ?_
             rotate_left
             ·rintro w' ⟨s0, s1, s2, s3, s4, s5, s6⟩
              go_simp
              with_reducible rfl
             rotate_left
             ·simp only [Act.put, List.setIfInBounds_toArray, List.set_cons_zero, List.set_cons_succ, i64_w, i32_w]
              rfl
             refine pure_ (i := 21) (N := some 58) (v := ?_) (a' := ?_) #[true, true, true, true, true, true, true, true, true, true, true, true, true, true, true, true, true, true, true, true, true, true, false, false] rfl rfl (any_of HT_.out (by kernel_rfl)) (fun _ _ _ h => h) (Or.inl ⟨by rfl, ?_⟩) ?_ ?_
             rotate_left
             ·intro w'
              go_simp
              with_reducible rfl
             rotate_left
             ·simp only [Act.put, List.setIfInBounds_toArray, List.set_cons_zero, List.set_cons_succ, i64_w, i32_w]
              rfl
             refine one_ (i := 22) (N := some 8) #[true, true, true, true, true, true, true, true, true, true, true, true, true, true, true, true, true, true, true, true, true, true, true, false] rfl rfl (one_of HT_.out (by kernel_rfl)) (by decide) (fun K hK => ?_)
             refine box_step ?hg (N := 8) ?hd (cs := #[.int .i64 0, .int .i64 0, .int .i64 0, .int .i64 0, .int .i64 0, .int .i64 0, .int .i64 0]) (t := 41) ?hr ?_; (case hd => rfl); (case hg => rfl); (case hr => first | (go_simp; done) | (go_simp; rfl))
             intro gb245 hg w52 hbox hb
             have HS0_ := (hb.cell (World.block_lt_of_cell? _ _ (hHeld.1))).trans (hHeld.1)
             have HS1_ := (hb.cell (World.block_lt_of_cell? _ _ (hHeld.2.1))).trans (hHeld.2.1)
             have HS2_ := (hb.cell (World.block_lt_of_cell? _ _ (hHeld.2.2.1))).trans (hHeld.2.2.1)
             have HS3_ := (hb.cell (World.block_lt_of_cell? _ _ (hHeld.2.2.2.1))).trans (hHeld.2.2.2.1)
             have HS4_ := (hb.cell (World.block_lt_of_cell? _ _ (hHeld.2.2.2.2.1))).trans (hHeld.2.2.2.2.1)
             have HS5_ := (hb.cell (World.block_lt_of_cell? _ _ (hHeld.2.2.2.2.2.1))).trans (hHeld.2.2.2.2.2.1)
             have HS6_ := (hb.cell (World.block_lt_of_cell? _ _ (hHeld.2.2.2.2.2.2))).trans (hHeld.2.2.2.2.2.2)
             have n0_ := Aside0.mk (Kd.R_below (by (with_reducible repeat (first | apply Kd.R_alloc | apply Kd.R_drewN | apply Kd.R_drew)); exact HO_3.out) hb)
             have n1_ := Aside0.mk (Kd.R_below (by (with_reducible repeat (first | apply Kd.R_alloc | apply Kd.R_drewN | apply Kd.R_drew)); exact HO_11.out) hb)
             have n2_ := Aside0.mk (Kd.R_below (by (with_reducible repeat (first | apply Kd.R_alloc | apply Kd.R_drewN | apply Kd.R_drew)); exact HO237.out) hb)
             have n3_ := Aside0.mk (blkb hb BK222.out)
             have n4_ := Aside0.mk (below_step (by repeat (first | (with_reducible first | exact HB.out | apply below_alloc | apply pw_below_drewN | apply below_drew1 | refine below_set ?_ GE222.out) | exact HB.out)) hb)
             have n5_ := Aside0.mk (hbox)
             have n6_ := Aside0.mk ((by rw [hg]; exact (below_size (by repeat (first | (with_reducible first | exact HB.out | apply below_alloc | apply pw_below_drewN | apply below_drew1 | refine below_set ?_ GE222.out) | exact HB.out))) : w.heap.size ≤ gb245))
             have n7_ := Aside0.mk ((by rw [hg]; exact (below_size (by repeat (first | (with_reducible first | exact HB.out | apply below_alloc | apply pw_below_drewN | apply below_drew1 | refine below_set ?_ GE222.out) | exact HB.out))) : w.heap.size ≤ gb245))
             have n8_ := Aside0.mk ((blkn hg BK222.out))
             have n9_ := Aside0.mk ((blkm hg BK222.out))
             clear HO_3
             clear HO_11
             clear HO237
             clear BK222
             clear HB
             have HO_3 := n0_
             have HO_11 := n1_
             have HO237 := n2_
             have BK222 := n3_
             have HB := n4_
             have BK245 := n5_
             have GW245 := n6_
             have GE245 := n7_
             have NB222_245 := n8_
             have NB245_222 := n9_
             clear n0_ n1_ n2_ n3_ n4_ n5_ n6_ n7_ n8_ n9_
             clear hb hbox hg
             refine hK.out _ _ ⟨HS0_, HS1_, HS2_, HS3_, HS4_, HS5_, HS6_⟩ (fun hHeld => ?_)
             clear hK K
             refine norm_ (a' := ?_) ?_ ?_
             rotate_left
             ·show Act.put _ (some 8) _ = _
              simp only [Act.put, List.setIfInBounds_toArray, List.set_cons_zero, List.set_cons_succ, i64_w, i32_w]
              rfl
             refine one_ (i := 23) (N := none) #[true, true, true, true, true, true, true, true, true, true, true, true, true, true, true, true, true, true, true, true, true, true, true, true] rfl rfl (one_of HT_.out (by kernel_rfl)) (by decide) (fun K hK => ?_)
             have hs53 : w52.cell? ⟨gb245, 0, none⟩ = some (.int .i64 0) := (blk_cell BK245.out 0).trans rfl
             have hfs53 := blk_frozen BK245.out 0
             have hns53_0 := NB222_245.out
             have hms53_0 := NB245_222.out
             have hs54 : w52.cell? ⟨gb245, 1, none⟩ = some (.int .i64 0) := (blk_cell BK245.out 1).trans rfl
             have hfs54 := blk_frozen BK245.out 1
             have hns54_0 := NB222_245.out
             have hms54_0 := NB245_222.out
             have hs55 : w52.cell? ⟨gb245, 2, none⟩ = some (.int .i64 0) := (blk_cell BK245.out 2).trans rfl
             have hfs55 := blk_frozen BK245.out 2
             have hns55_0 := NB222_245.out
             have hms55_0 := NB245_222.out
             have hs56 : w52.cell? ⟨gb245, 3, none⟩ = some (.int .i64 0) := (blk_cell BK245.out 3).trans rfl
             have hfs56 := blk_frozen BK245.out 3
             have hns56_0 := NB222_245.out
             have hms56_0 := NB245_222.out
             have hs57 : w52.cell? ⟨gb245, 4, none⟩ = some (.int .i64 0) := (blk_cell BK245.out 4).trans rfl
             have hfs57 := blk_frozen BK245.out 4
             have hns57_0 := NB222_245.out
             have hms57_0 := NB245_222.out
             have hs58 : w52.cell? ⟨gb245, 5, none⟩ = some (.int .i64 0) := (blk_cell BK245.out 5).trans rfl
             have hfs58 := blk_frozen BK245.out 5
             have hns58_0 := NB222_245.out
             have hms58_0 := NB245_222.out
             have hs59 : w52.cell? ⟨gb245, 6, none⟩ = some (.int .i64 0) := (blk_cell BK245.out 6).trans rfl
             have hfs59 := blk_frozen BK245.out 6
             have hns59_0 := NB222_245.out
             have hms59_0 := NB245_222.out
             refine skip_ (w1 := ?_) (by rfl) rfl ?_ ?_
             rotate_left
             ·go_simp
              rfl
             have NE_ : ad238.block ≠ gb245 := Kd.own_blk (Kd.R_ne HO_3.out BK245.out (by decide))
             refine hK.out _ _ ⟨far7 hHeld.1 NE_, far7 hHeld.2.1 NE_, far7 hHeld.2.2.1 NE_, far7 hHeld.2.2.2.1 NE_, far7 hHeld.2.2.2.2.1 NE_, far7 hHeld.2.2.2.2.2.1 NE_, far7 hHeld.2.2.2.2.2.2 NE_⟩ (fun hHeld => ?_)
             clear hK K
             refine done_ (done_of HT_.out (by kernel_rfl)) ?_
             have hnb60 := NB245_222.out
             have hnc60 := NB222_245.out
             have hcz61_0 : w52.cell? ⟨gb245, 0, none⟩ = some (.int .i64 0) := (blk_cell BK245.out 0).trans rfl
             have hcz61_1 : w52.cell? ⟨gb245, 1, none⟩ = some (.int .i64 0) := (blk_cell BK245.out 1).trans rfl
             have hcz61_2 : w52.cell? ⟨gb245, 2, none⟩ = some (.int .i64 0) := (blk_cell BK245.out 2).trans rfl
             have hcz61_3 : w52.cell? ⟨gb245, 3, none⟩ = some (.int .i64 0) := (blk_cell BK245.out 3).trans rfl
             have hcz61_4 : w52.cell? ⟨gb245, 4, none⟩ = some (.int .i64 0) := (blk_cell BK245.out 4).trans rfl
             have hcz61_5 : w52.cell? ⟨gb245, 5, none⟩ = some (.int .i64 0) := (blk_cell BK245.out 5).trans rfl
             have hcz61_6 : w52.cell? ⟨gb245, 6, none⟩ = some (.int .i64 0) := (blk_cell BK245.out 6).trans rfl
             have hfz61_0 := blk_frozen BK245.out 0
             have hfz61_1 := blk_frozen BK245.out 1
             have hfz61_2 := blk_frozen BK245.out 2
             have hfz61_3 := blk_frozen BK245.out 3
             have hfz61_4 := blk_frozen BK245.out 4
             have hfz61_5 := blk_frozen BK245.out 5
             have hfz61_6 := blk_frozen BK245.out 6
             try go_wp2_with (first | ((with_reducible refine gate_callee (f := 37) rfl ?_); refine goesL_ (some 60) rfl rfl Tryd.func37 (by kernel_rfl) rfl #[.agg #[.int .i64 (rd x3_1 0), .int .i64 (rd x3_1 1), .int .i64 (rd x3_1 2), .int .i64 (rd x3_1 3), .int .i64 (rd x3_1 4), .int .i64 (rd x3_1 5), .int .i64 (rd x3_1 6)]] rfl (by (try simp only [List.map_toArray, List.map_cons, List.map_nil]); first | done | rfl | (simp only [List.length_drop, List.length_take]; rfl)) ?_; (with_reducible refine (impl_WayFault.calls k1 (rd x3_1 0) (rd x3_1 1) (rd x3_1 2) (rd x3_1 3) (rd x3_1 4) (rd x3_1 5) (rd x3_1 6) t246 _ A28.out).mono ?_); rintro e w62 ⟨rfl, hb⟩; refine ⟨_, rfl, ?_⟩; have n0_ := Aside0.mk (Kd.R_below (by (with_reducible repeat (first | apply Kd.R_alloc | apply Kd.R_drewN | apply Kd.R_drew)); exact (Kd.R_mono (Kd.R_far (p := ⟨gb245, 6, none⟩) (Kd.R_far (p := ⟨gb245, 5, none⟩) (Kd.R_far (p := ⟨gb245, 4, none⟩) (Kd.R_far (p := ⟨gb245, 3, none⟩) (Kd.R_far (p := ⟨gb245, 2, none⟩) (Kd.R_far (p := ⟨gb245, 1, none⟩) (Kd.R_far (p := ⟨gb245, 0, none⟩) (Kd.R_types HO_3.out BK245.out (by decide)) (fun _ hk => hk.2) (.int .i64 (rd x3_1 0))) (fun _ hk => hk.2) (.int .i64 (rd x3_1 1))) (fun _ hk => hk.2) (.int .i64 (rd x3_1 2))) (fun _ hk => hk.2) (.int .i64 (rd x3_1 3))) (fun _ hk => hk.2) (.int .i64 (rd x3_1 4))) (fun _ hk => hk.2) (.int .i64 (rd x3_1 5))) (fun _ hk => hk.2) (.int .i64 (rd x3_1 6))) (fun _ h_ => h_.1))) hb); have n1_ := Aside0.mk (Kd.R_below (by (with_reducible repeat (first | apply Kd.R_alloc | apply Kd.R_drewN | apply Kd.R_drew)); exact (Kd.R_mono (Kd.R_far (p := ⟨gb245, 6, none⟩) (Kd.R_far (p := ⟨gb245, 5, none⟩) (Kd.R_far (p := ⟨gb245, 4, none⟩) (Kd.R_far (p := ⟨gb245, 3, none⟩) (Kd.R_far (p := ⟨gb245, 2, none⟩) (Kd.R_far (p := ⟨gb245, 1, none⟩) (Kd.R_far (p := ⟨gb245, 0, none⟩) (Kd.R_types HO_11.out BK245.out (by decide)) (fun _ hk => hk.2) (.int .i64 (rd x3_1 0))) (fun _ hk => hk.2) (.int .i64 (rd x3_1 1))) (fun _ hk => hk.2) (.int .i64 (rd x3_1 2))) (fun _ hk => hk.2) (.int .i64 (rd x3_1 3))) (fun _ hk => hk.2) (.int .i64 (rd x3_1 4))) (fun _ hk => hk.2) (.int .i64 (rd x3_1 5))) (fun _ hk => hk.2) (.int .i64 (rd x3_1 6))) (fun _ h_ => h_.1))) hb); have n2_ := Aside0.mk (Kd.R_below (by (with_reducible repeat (first | apply Kd.R_alloc | apply Kd.R_drewN | apply Kd.R_drew)); exact (Kd.R_mono (Kd.R_far (p := ⟨gb245, 6, none⟩) (Kd.R_far (p := ⟨gb245, 5, none⟩) (Kd.R_far (p := ⟨gb245, 4, none⟩) (Kd.R_far (p := ⟨gb245, 3, none⟩) (Kd.R_far (p := ⟨gb245, 2, none⟩) (Kd.R_far (p := ⟨gb245, 1, none⟩) (Kd.R_far (p := ⟨gb245, 0, none⟩) (Kd.R_types HO237.out BK245.out (by decide)) (fun _ hk => hk.2) (.int .i64 (rd x3_1 0))) (fun _ hk => hk.2) (.int .i64 (rd x3_1 1))) (fun _ hk => hk.2) (.int .i64 (rd x3_1 2))) (fun _ hk => hk.2) (.int .i64 (rd x3_1 3))) (fun _ hk => hk.2) (.int .i64 (rd x3_1 4))) (fun _ hk => hk.2) (.int .i64 (rd x3_1 5))) (fun _ hk => hk.2) (.int .i64 (rd x3_1 6))) (fun _ h_ => h_.1))) hb); have n3_ := Aside0.mk (blk_below (g := gb222) (o := .cells #[.int .i64 x223000_1, .int .i64 x223001_1, .int .i64 x223002_1, .int .i64 x223003_1, .int .i64 x223004_1, .int .i64 x223005_1, .int .i64 x223006_1, .int .i64 x223007_1] 46 (0, 0)) (by (with_reducible repeat (first | refine blk_drewN ?_ _ | refine blk_drew ?_ | refine blk_alloc ?_ _)); refine blk_far ?_ NB222_245.out _; (with_reducible repeat (first | refine blk_drewN ?_ _ | refine blk_drew ?_ | refine blk_alloc ?_ _)); refine blk_far ?_ NB222_245.out _; (with_reducible repeat (first | refine blk_drewN ?_ _ | refine blk_drew ?_ | refine blk_alloc ?_ _)); refine blk_far ?_ NB222_245.out _; (with_reducible repeat (first | refine blk_drewN ?_ _ | refine blk_drew ?_ | refine blk_alloc ?_ _)); refine blk_far ?_ NB222_245.out _; (with_reducible repeat (first | refine blk_drewN ?_ _ | refine blk_drew ?_ | refine blk_alloc ?_ _)); refine blk_far ?_ NB222_245.out _; (with_reducible repeat (first | refine blk_drewN ?_ _ | refine blk_drew ?_ | refine blk_alloc ?_ _)); refine blk_far ?_ NB222_245.out _; (with_reducible repeat (first | refine blk_drewN ?_ _ | refine blk_drew ?_ | refine blk_alloc ?_ _)); refine blk_far ?_ NB222_245.out _; (with_reducible repeat (first | refine blk_drewN ?_ _ | refine blk_drew ?_ | refine blk_alloc ?_ _)); exact BK222.out) hb); have n4_ := Aside0.mk (blk_below (g := gb245) (o := .cells #[.int .i64 (rd x3_1 0), .int .i64 (rd x3_1 1), .int .i64 (rd x3_1 2), .int .i64 (rd x3_1 3), .int .i64 (rd x3_1 4), .int .i64 (rd x3_1 5), .int .i64 (rd x3_1 6)] 41 (0, 0)) (by (with_reducible repeat (first | refine blk_drewN ?_ _ | refine blk_drew ?_ | refine blk_alloc ?_ _)); refine blk_put (cs := #[.int .i64 (rd x3_1 0), .int .i64 (rd x3_1 1), .int .i64 (rd x3_1 2), .int .i64 (rd x3_1 3), .int .i64 (rd x3_1 4), .int .i64 (rd x3_1 5), .int .i64 0]) ?_ 6 _ rfl; (with_reducible repeat (first | refine blk_drewN ?_ _ | refine blk_drew ?_ | refine blk_alloc ?_ _)); refine blk_put (cs := #[.int .i64 (rd x3_1 0), .int .i64 (rd x3_1 1), .int .i64 (rd x3_1 2), .int .i64 (rd x3_1 3), .int .i64 (rd x3_1 4), .int .i64 0, .int .i64 0]) ?_ 5 _ rfl; (with_reducible repeat (first | refine blk_drewN ?_ _ | refine blk_drew ?_ | refine blk_alloc ?_ _)); refine blk_put (cs := #[.int .i64 (rd x3_1 0), .int .i64 (rd x3_1 1), .int .i64 (rd x3_1 2), .int .i64 (rd x3_1 3), .int .i64 0, .int .i64 0, .int .i64 0]) ?_ 4 _ rfl; (with_reducible repeat (first | refine blk_drewN ?_ _ | refine blk_drew ?_ | refine blk_alloc ?_ _)); refine blk_put (cs := #[.int .i64 (rd x3_1 0), .int .i64 (rd x3_1 1), .int .i64 (rd x3_1 2), .int .i64 0, .int .i64 0, .int .i64 0, .int .i64 0]) ?_ 3 _ rfl; (with_reducible repeat (first | refine blk_drewN ?_ _ | refine blk_drew ?_ | refine blk_alloc ?_ _)); refine blk_put (cs := #[.int .i64 (rd x3_1 0), .int .i64 (rd x3_1 1), .int .i64 0, .int .i64 0, .int .i64 0, .int .i64 0, .int .i64 0]) ?_ 2 _ rfl; (with_reducible repeat (first | refine blk_drewN ?_ _ | refine blk_drew ?_ | refine blk_alloc ?_ _)); refine blk_put (cs := #[.int .i64 (rd x3_1 0), .int .i64 0, .int .i64 0, .int .i64 0, .int .i64 0, .int .i64 0, .int .i64 0]) ?_ 1 _ rfl; (with_reducible repeat (first | refine blk_drewN ?_ _ | refine blk_drew ?_ | refine blk_alloc ?_ _)); refine blk_put (cs := #[.int .i64 0, .int .i64 0, .int .i64 0, .int .i64 0, .int .i64 0, .int .i64 0, .int .i64 0]) ?_ 0 _ rfl; (with_reducible repeat (first | refine blk_drewN ?_ _ | refine blk_drew ?_ | refine blk_alloc ?_ _)); exact BK245.out) hb); have n5_ := Aside0.mk (below_step (by repeat (first | (with_reducible first | exact HB.out | apply below_alloc | apply pw_below_drewN | apply below_drew1 | refine below_set ?_ GE222.out | refine below_set ?_ GE245.out) | exact HB.out)) hb); clear HO_3; clear HO_11; clear HO237; clear BK222; clear BK245; clear HB; have HO_3 := n0_; have HO_11 := n1_; have HO237 := n2_; have BK222 := n3_; have BK245 := n4_; have HB := n5_; clear n0_ n1_ n2_ n3_ n4_ n5_; (try clear hb); (try clear hb2); (try clear hk); (try clear hi); have hcz63_0 : w62.cell? ⟨gb222, 0, none⟩ = some (.int .i64 x223000_1) := (blk_cell BK222.out 0).trans rfl; have hcz63_1 : w62.cell? ⟨gb222, 1, none⟩ = some (.int .i64 x223001_1) := (blk_cell BK222.out 1).trans rfl; have hcz63_2 : w62.cell? ⟨gb222, 2, none⟩ = some (.int .i64 x223002_1) := (blk_cell BK222.out 2).trans rfl; have hcz63_3 : w62.cell? ⟨gb222, 3, none⟩ = some (.int .i64 x223003_1) := (blk_cell BK222.out 3).trans rfl; have hcz63_4 : w62.cell? ⟨gb222, 4, none⟩ = some (.int .i64 x223004_1) := (blk_cell BK222.out 4).trans rfl; have hcz63_5 : w62.cell? ⟨gb222, 5, none⟩ = some (.int .i64 x223005_1) := (blk_cell BK222.out 5).trans rfl; have hcz63_6 : w62.cell? ⟨gb222, 6, none⟩ = some (.int .i64 x223006_1) := (blk_cell BK222.out 6).trans rfl; have hcz63_7 : w62.cell? ⟨gb222, 7, none⟩ = some (.int .i64 x223007_1) := (blk_cell BK222.out 7).trans rfl; have hfz63_0 := blk_frozen BK222.out 0; have hfz63_1 := blk_frozen BK222.out 1; have hfz63_2 := blk_frozen BK222.out 2; have hfz63_3 := blk_frozen BK222.out 3; have hfz63_4 := blk_frozen BK222.out 4; have hfz63_5 := blk_frozen BK222.out 5; have hfz63_6 := blk_frozen BK222.out 6; have hfz63_7 := blk_frozen BK222.out 7) | ((with_reducible refine gate_store (t := 46) (p := 2) rfl ?_); refine Go.Proofs.YtpoafgokngpglaaDoorCells.store_whole (ty := 46) (x := .tmp 2) (y := ?vo_w64) (g := gb222) (cells := [.int .i64 5, .int .i64 0, .int .i64 0, .int .i64 0, .int .i64 0, .int .i64 0, .int .i64 0, .int .i64 0]) (t := 46) (old := [.int .i64 x223000_1, .int .i64 x223001_1, .int .i64 x223002_1, .int .i64 x223003_1, .int .i64 x223004_1, .int .i64 x223005_1, .int .i64 x223006_1, .int .i64 x223007_1]) ?hg ?ho ?hx ?hy ?hn ?hb ?hi rfl rfl ?_; (case ho => rfl); (case hg => rfl); (case hn => rfl); (case hx => rfl); (case hy => first | rfl | (go_simp; done) | (simp [*]; done)); (case hb => exact (by (with_reducible repeat (first | refine blk_drewN ?_ _ | refine blk_drew ?_ | refine blk_alloc ?_ _)); exact BK222.out)); (case hi => kernel_rfl); intro w64 hob_ hbk hfar hbel; have n0_ : Aside0 (Kd.R (Kd.int .i64) 2 w64 w.heap.size (fun k_ => some k_ ≠ (.slice Ao50 t235.length co50 : Value).ownBlock) (.slice (some ad238) x3_1.length co48) x3_1) := ⟨Go.Proofs.YtpoafgokngpglaaDoorCells.R_whole (by (with_reducible repeat (first | apply Kd.R_alloc | apply Kd.R_drewN | apply Kd.R_drew)); exact Kd.R_mono HO_3.out (fun _ hk => hk.2)) hob_ (by decide) hfar⟩; have n1_ : Aside0 (Kd.R Kd.string 9 w64 w.heap.size (fun _ => True) (.slice Ao7 t226.length co7) t226) := ⟨Go.Proofs.YtpoafgokngpglaaDoorCells.R_whole (by (with_reducible repeat (first | apply Kd.R_alloc | apply Kd.R_drewN | apply Kd.R_drew)); exact HO_11.out) hob_ (by decide) hfar⟩; have n2_ : Aside0 (Kd.R (Kd.int .i64) 2 w64 w.heap.size (fun k_ => some k_ ≠ (.slice (some ad238) x3_1.length co48 : Value).ownBlock) (.slice Ao50 t235.length co50) t235) := ⟨Go.Proofs.YtpoafgokngpglaaDoorCells.R_whole (by (with_reducible repeat (first | apply Kd.R_alloc | apply Kd.R_drewN | apply Kd.R_drew)); exact Kd.R_mono HO237.out (fun _ hk => hk.2)) hob_ (by decide) hfar⟩; have n3_ : Aside0 (w64.heap[gb222]? = some (.cells #[.int .i64 5, .int .i64 0, .int .i64 0, .int .i64 0, .int .i64 0, .int .i64 0, .int .i64 0, .int .i64 0] 46 (0, 0))) := ⟨hbk⟩; have n4_ : Aside0 (w64.heap[gb245]? = some (.cells #[.int .i64 (rd x3_1 0), .int .i64 (rd x3_1 1), .int .i64 (rd x3_1 2), .int .i64 (rd x3_1 3), .int .i64 (rd x3_1 4), .int .i64 (rd x3_1 5), .int .i64 (rd x3_1 6)] 41 (0, 0))) := ⟨(hfar _ NB245_222.out).trans (by (with_reducible repeat (first | refine blk_drewN ?_ _ | refine blk_drew ?_ | refine blk_alloc ?_ _)); exact BK245.out)⟩; have n5_ : Aside0 (Below w.heap.size w w64) := ⟨hbel _ _ GE222.out (by repeat (first | (with_reducible first | exact HB.out | apply below_alloc | apply pw_below_drewN | apply below_drew1 | refine below_set ?_ GE222.out | refine below_set ?_ GE245.out) | exact HB.out))⟩; clear hob_ hbk hfar hbel; clear HO_3; clear HO_11; clear HO237; clear BK222; clear BK245; clear HB; have HO_3 := n0_; have HO_11 := n1_; have HO237 := n2_; have BK222 := n3_; have BK245 := n4_; have HB := n5_; clear n0_ n1_ n2_ n3_ n4_ n5_))
             refine bodyPost_ret (results_cell_row rfl _ _ gb222 46 #[.int .i64 5, .int .i64 0, .int .i64 0, .int .i64 0, .int .i64 0, .int .i64 0, .int .i64 0, .int .i64 0] (0, 0) _ rfl (by (with_reducible repeat (first | refine blk_drewN ?_ _ | refine blk_drew ?_ | refine blk_alloc ?_ _)); exact BK222.out) Tryd.underlying46 rfl (by kernel_rfl)) rfl ?_
             exact ⟨by first | rfl | (simp [errW_none, errW_some] <;> rfl) | (simp [*, errW_none, errW_some] <;> rfl), by repeat (first | (with_reducible first | exact HB.out | apply below_alloc | apply pw_below_drewN | apply below_drew1 | refine below_set ?_ GE222.out | refine below_set ?_ GE245.out) | exact HB.out)⟩
           ·rw [if_neg c27] at H
            exact absurd H (by simp)
          ·rw [if_neg c26] at H
           exact absurd H (by simp)
         ·rw [if_neg c25] at H
          exact absurd H (by simp)
        ·rw [if_neg c24] at H
         exact absurd H (by simp)
       ·rw [if_neg c23] at H
        exact absurd H (by simp)
      ·rw [if_neg c22] at H
       exact absurd H (by simp)
     ·rw [if_neg c21] at H
      exact absurd H (by simp)
    ·rw [if_neg c20] at H
     have c20b0 : ((x3_1.length : Int) == (t235.length : Int)) = false := beq_eq_false_iff_ne.mpr c20
     have c20b1 : ((x3_1.length : Int) != (t235.length : Int)) = true := bne_iff_ne.mpr c20
     have c20b2 : (x3_1.length == t235.length) = false := by first | simpa using c20 | (simp at c20 ⊢; omega)
     simp only [Option.some.injEq, Prod.mk.injEq] at H
     obtain ⟨rfl, rfl, rfl, rfl, rfl, rfl, rfl, rfl⟩ := H
     obtain ⟨Ao65, co65, eo65⟩ := Kd.R_slice HO_3.out
     subst eo65
     go_wp2_with (first | ((with_reducible refine gate_callee (f := 66) rfl ?_); refine goesL_ (some 33) rfl rfl Tryd.func66 (by kernel_rfl) rfl #[.agg #[.int .i64 0, .int .i64 0, .int .i64 0, .int .i64 0, .int .i64 0, .int .i64 0, .int .i64 0]] rfl (by (try simp only [List.map_toArray, List.map_cons, List.map_nil]); first | done | rfl | (simp only [List.length_drop, List.length_take]; rfl)) ?_; (with_reducible refine (impl_Way_numbers.calls 0 0 0 0 0 0 0 t235 _ A19.out).mono ?_); rintro e w66 ⟨v236, rfl, ho0, hb⟩; refine ⟨_, rfl, ?_⟩; have n0_ := Aside0.mk (Kd.R_elder' (by (with_reducible repeat (first | apply Kd.R_alloc | apply Kd.R_drewN | apply Kd.R_drew)); exact HO_3.out) (Kd.R_base ho0) hb); have n1_ := Aside0.mk (Kd.R_below (by (with_reducible repeat (first | apply Kd.R_alloc | apply Kd.R_drewN | apply Kd.R_drew)); exact HO_11.out) hb); have n2_ := Aside0.mk (Kd.R_lower (Kd.R_new' ho0 (Kd.R_lt (by (with_reducible repeat (first | apply Kd.R_alloc | apply Kd.R_drewN | apply Kd.R_drew)); exact HO_3.out))) (below_size (by repeat (first | (with_reducible first | exact HB.out | apply below_alloc | apply pw_below_drewN | apply below_drew1 | refine below_set ?_ GE222.out) | exact HB.out)))); have n3_ := Aside0.mk (blkb hb BK222.out); have n4_ := Aside0.mk (below_step (by repeat (first | (with_reducible first | exact HB.out | apply below_alloc | apply pw_below_drewN | apply below_drew1 | refine below_set ?_ GE222.out) | exact HB.out)) hb); clear HO_3; clear HO_11; clear BK222; clear HB; have HO_3 := n0_; have HO_11 := n1_; have HO237 := n2_; have BK222 := n3_; have HB := n4_; clear n0_ n1_ n2_ n3_ n4_; (try clear hb); (try clear hb2); (try clear hk); (try clear hi); (try clear ho0); obtain ⟨Ao67, co67, eo67⟩ := Kd.R_slice HO237.out; subst eo67; have hcz68_0 : w66.cell? ⟨gb222, 0, none⟩ = some (.int .i64 x223000_1) := (blk_cell BK222.out 0).trans rfl; have hcz68_1 : w66.cell? ⟨gb222, 1, none⟩ = some (.int .i64 x223001_1) := (blk_cell BK222.out 1).trans rfl; have hcz68_2 : w66.cell? ⟨gb222, 2, none⟩ = some (.int .i64 x223002_1) := (blk_cell BK222.out 2).trans rfl; have hcz68_3 : w66.cell? ⟨gb222, 3, none⟩ = some (.int .i64 x223003_1) := (blk_cell BK222.out 3).trans rfl; have hcz68_4 : w66.cell? ⟨gb222, 4, none⟩ = some (.int .i64 x223004_1) := (blk_cell BK222.out 4).trans rfl; have hcz68_5 : w66.cell? ⟨gb222, 5, none⟩ = some (.int .i64 x223005_1) := (blk_cell BK222.out 5).trans rfl; have hcz68_6 : w66.cell? ⟨gb222, 6, none⟩ = some (.int .i64 x223006_1) := (blk_cell BK222.out 6).trans rfl; have hcz68_7 : w66.cell? ⟨gb222, 7, none⟩ = some (.int .i64 x223007_1) := (blk_cell BK222.out 7).trans rfl; have hfz68_0 := blk_frozen BK222.out 0; have hfz68_1 := blk_frozen BK222.out 1; have hfz68_2 := blk_frozen BK222.out 2; have hfz68_3 := blk_frozen BK222.out 3; have hfz68_4 := blk_frozen BK222.out 4; have hfz68_5 := blk_frozen BK222.out 5; have hfz68_6 := blk_frozen BK222.out 6; have hfz68_7 := blk_frozen BK222.out 7) | ((with_reducible refine gate_store (t := 46) (p := 2) rfl ?_); refine Go.Proofs.YtpoafgokngpglaaDoorCells.store_whole (ty := 46) (x := .tmp 2) (y := ?vo_w69) (g := gb222) (cells := [.int .i64 5, .int .i64 0, .int .i64 0, .int .i64 0, .int .i64 0, .int .i64 0, .int .i64 0, .int .i64 0]) (t := 46) (old := [.int .i64 x223000_1, .int .i64 x223001_1, .int .i64 x223002_1, .int .i64 x223003_1, .int .i64 x223004_1, .int .i64 x223005_1, .int .i64 x223006_1, .int .i64 x223007_1]) ?hg ?ho ?hx ?hy ?hn ?hb ?hi rfl rfl ?_; (case ho => rfl); (case hg => rfl); (case hn => rfl); (case hx => rfl); (case hy => first | rfl | (go_simp; done) | (simp [*]; done)); (case hb => exact (by (with_reducible repeat (first | refine blk_drewN ?_ _ | refine blk_drew ?_ | refine blk_alloc ?_ _)); exact BK222.out)); (case hi => kernel_rfl); intro w69 hob_ hbk hfar hbel; have n0_ : Aside0 (Kd.R (Kd.int .i64) 2 w69 w.heap.size (fun k_ => some k_ ≠ (.slice Ao67 t235.length co67 : Value).ownBlock) (.slice Ao65 x3_1.length co65) x3_1) := ⟨Go.Proofs.YtpoafgokngpglaaDoorCells.R_whole (by (with_reducible repeat (first | apply Kd.R_alloc | apply Kd.R_drewN | apply Kd.R_drew)); exact Kd.R_mono HO_3.out (fun _ hk => hk.2)) hob_ (by decide) hfar⟩; have n1_ : Aside0 (Kd.R Kd.string 9 w69 w.heap.size (fun _ => True) (.slice Ao7 t226.length co7) t226) := ⟨Go.Proofs.YtpoafgokngpglaaDoorCells.R_whole (by (with_reducible repeat (first | apply Kd.R_alloc | apply Kd.R_drewN | apply Kd.R_drew)); exact HO_11.out) hob_ (by decide) hfar⟩; have n2_ : Aside0 (Kd.R (Kd.int .i64) 2 w69 w.heap.size (fun k_ => some k_ ≠ (.slice Ao65 x3_1.length co65 : Value).ownBlock) (.slice Ao67 t235.length co67) t235) := ⟨Go.Proofs.YtpoafgokngpglaaDoorCells.R_whole (by (with_reducible repeat (first | apply Kd.R_alloc | apply Kd.R_drewN | apply Kd.R_drew)); exact Kd.R_mono HO237.out (fun _ hk => hk.2)) hob_ (by decide) hfar⟩; have n3_ : Aside0 (w69.heap[gb222]? = some (.cells #[.int .i64 5, .int .i64 0, .int .i64 0, .int .i64 0, .int .i64 0, .int .i64 0, .int .i64 0, .int .i64 0] 46 (0, 0))) := ⟨hbk⟩; have n4_ : Aside0 (Below w.heap.size w w69) := ⟨hbel _ _ GE222.out (by repeat (first | (with_reducible first | exact HB.out | apply below_alloc | apply pw_below_drewN | apply below_drew1 | refine below_set ?_ GE222.out) | exact HB.out))⟩; clear hob_ hbk hfar hbel; clear HO_3; clear HO_11; clear HO237; clear BK222; clear HB; have HO_3 := n0_; have HO_11 := n1_; have HO237 := n2_; have BK222 := n3_; have HB := n4_; clear n0_ n1_ n2_ n3_ n4_))
     refine bodyPost_ret (results_cell_row rfl _ _ gb222 46 #[.int .i64 5, .int .i64 0, .int .i64 0, .int .i64 0, .int .i64 0, .int .i64 0, .int .i64 0, .int .i64 0] (0, 0) _ rfl (by (with_reducible repeat (first | refine blk_drewN ?_ _ | refine blk_drew ?_ | refine blk_alloc ?_ _)); exact BK222.out) Tryd.underlying46 rfl (by kernel_rfl)) rfl ?_
     exact ⟨by first | rfl | (simp [errW_none, errW_some] <;> rfl) | (simp [*, errW_none, errW_some] <;> rfl), by repeat (first | (with_reducible first | exact HB.out | apply below_alloc | apply pw_below_drewN | apply below_drew1 | refine below_set ?_ GE222.out) | exact HB.out)⟩

end Go.Proofs.YtpoafgokngpglaaDoor.PFnWays
