-- Written for this claim by a program of this session's (wip/p2.sh).
import Derived.Test.YtpoafgokngpglaaQdIns
import Derived.Deep.RegionLaw
import Derived.Test.YtpoafgokngpglaaPFnBindsx0
namespace Go.Proofs.Ytpoafgokngpglaa.PFnBinds
open Go.Proofs.YtpoafgokngpglaaCopy Go.Proofs.YtpoafgokngpglaaFlat Go.Proofs.YtpoafgokngpglaaIns Go.RowKit Go.Proofs.YtpoafgokngpglaaW.PrintWords Go.Proofs.YtpoafgokngpglaaW.PrintLast Go.Proofs.YtpoafgokngpglaaW.PrintMore
attribute [local go_sem] max2_int min2_int max_two min_two max_three min_three max_four min_four   -- for this text's walks alone
set_option linter.unusedVariables false
set_option linter.unusedSimpArgs false

/-! ### impl_Bind_72: function 72 -/
def impl_Bind_72.f (l0 : List (S64)) (a1 : Int) (l2 : List (S64)) : Option ((List (S64))) := if l2.length = 1 then (if 0 ≤ a1 then (if a1 ≤ (l0.length : Int) then (if l0.length < 1000000000 then (some (l0.take a1.toNat ++ l2 ++ l0.drop a1.toNat)) else (none)) else (none)) else (none)) else (none)
def enc64 (x : S64) : List Value := [.int .i64 x.f0, .int .i64 x.f1, .int .i64 x.f2.f0, .int .i64 x.f2.f1]
theorem flat64 : Flat k64 enc64 := ⟨fun _ => rfl, fun x v hv => by
  simp [enc64] at hv
  rcases hv with rfl | rfl | rfl | rfl <;> rfl, fun w base ok x cs => ⟨fun h => k64_openM h, fun h => h ▸ k64_mkM w base ok x⟩, fun w x cs => ⟨fun h => k64_open h, fun h => h ▸ k64_mk w x⟩⟩
set_option maxHeartbeats 2000000 in
set_option maxRecDepth 100000 in
theorem impl_Bind_72.calls (P0_ : Nat → Prop) (u9000_ : Value) (l0 : List (S64)) (a1 : Int) (A2 : Option Addr) (c2 : Nat) (l2 : List (S64)) (r : List (S64)) (w0 w : World) (hB : Below w0.heap.size w0 w) (ho0 : Kd.R k64 64 w w0.heap.size P0_ u9000_ l0) (hr2 : ∀ W_, Kept w W_ (fun k_ => P0_ k_) → Kd.C k64 W_ A2 l2.length l2) (hv2 : ∃ (b2 : Nat) (ok2 : Nat → Prop), Kd.R k64 64 w b2 ok2 (.slice A2 l2.length c2) l2 ∧ ∀ k_, ok2 k_ → ¬ P0_ k_) (hc2 : l2.length ≤ c2) (h : impl_Bind_72.f l0 a1 l2 = some r) :
  Calls Try.prog 72 #[u9000_, .int .i64 a1, .slice A2 l2.length c2] w fun e w' => ∃ v0_ : Value, e = .returned (v0_) ∧ Kd.R k64 64 w' w0.heap.size (fun k_ => (P0_ k_ ∨ w.heap.size ≤ k_)) v0_ r ∧ Below w0.heap.size w0 w' ∧ Kept w w' (fun k_ => P0_ k_) := by
 unfold impl_Bind_72.f at h
 by_cases q1 : l2.length = 1
 ·rw [if_pos q1] at h
  by_cases q2 : 0 ≤ a1
  ·rw [if_pos q2] at h
   by_cases q3 : a1 ≤ (l0.length : Int)
   ·rw [if_pos q3] at h
    by_cases q4 : l0.length < 1000000000
    ·rw [if_pos q4] at h
     obtain rfl := Option.some.inj h
     clear h
     obtain ⟨i, rfl⟩ := Int.eq_ofNat_of_zero_le q2
     rw [Int.toNat_natCast]
     obtain ⟨p, rfl⟩ := List.length_eq_one_iff.1 q1
     obtain ⟨i3, hi3, hz3, hsz3, hby3⟩ := info_parts info64
     have hl1 : (([p] : List S64).length : Int) = 1 := rfl
     by_cases q5 : i = l0.length
     ·subst q5
      have e0 : l0.take l0.length ++ [p] ++ l0.drop l0.length = l0 ++ [p] := by simp
      rw [e0]
      obtain ⟨A0, c0, eu⟩ := Kd.R_slice ho0
      subst eu
      have HO0 := Aside0.mk (show Kd.R k64 64 w w0.heap.size (fun k_ => (P0_ k_ ∨ w.heap.size ≤ k_)) (.slice A0 l0.length c0) l0 from Kd.R_mono ho0 (fun k_ hk => (.inl hk)))
      have HR2 := Aside0.mk hr2
      have HK := Aside0.mk (Kept.refl w (fun k_ => P0_ k_))
      have HW0 := Aside0.mk hB.size
      have HB := Aside0.mk hB
      have LM := Aside0.mk (show l0.length + ([p] : List S64).length < 2000000000 by simp; omega)
      obtain ⟨v9, hv9⟩ : ∃ v9 : Value, ∀ W : World, (Instr.slice 57 (.slice A0 l0.length c0) (some (.int .i64 (l0.length : Int))) none none).run Try.prog W = .ok v9 W := ⟨_, cut_from 57 64 .i64 Try.underlying57 hi3 4 hsz3 A0 l0.length c0 (l0.length : Int) (by omega) (by omega)⟩
      obtain ⟨y, hy⟩ : ∃ y : List (S64), y = l0 ++ [p] := ⟨_, rfl⟩
      rw [← hy]
      have Ny := Aside0.mk hy
      change Calls Try.prog 72 #[.slice A0 l0.length c0, .int .i64 (l0.length : Int), .slice A2 1 c2] w _
      clear hB ho0 hr2 hv2 hc2 q1 q2 q3 q4 hi3 hz3 hsz3 hby3 e0 hl1 hy
      go_enter Try.func72, Try.ntmps72
      go_wp2_with (first | ((with_reducible refine gate_builtin (b := .append) (xs := #[.tmp 23, .tmp 24]) rfl ?_); at_builtin; refine Kd.R_append_rows k64 (w0 := w0) w0.heap.size rfl (.tmp 23) (.tmp 24) 57 64 (.agg #[(.int .i64 0), (.int .i64 0), (.int .i64 0), (.int .i64 0)]) 32 rfl Try.underlying57 info64 rfl (by decide) (by omega) (.slice A0 l0.length c0) l0 [p] _ _ _ (fun k_ => (P0_ k_ ∨ w.heap.size ≤ k_)) (fun _ => False) rfl rfl ?aO ?aR (fun _ _ h => h) (fun _ h => h.elim) ?aF ?aB ?aS ?aL ?_; (case aR => exact Kd.C_kept_now HR2.out HK.out); (case aB => exact HB.out); (case aF => exact (fun k_ hk => (.inr (Nat.le_trans HK.out.1 hk)))); (case aO => exact HO0.out); (case aS => exact (below_size HB.out)); (case aL => have := LM.out; omega); intro v153 w5 ho hb hg hat; rw [← Ny.out] at ho; have n0_ := Aside0.mk (hb); have n1_ := Aside0.mk (Kept.of_grown (S := (fun k_ => P0_ k_)) hg HK.out (fun k_ e_ => (HO0.out.1 k_ e_))); have n2_ := Aside0.mk (ho); clear HB; clear HK; clear HO0; have HB := n0_; have HK := n1_; have HO154 := n2_; clear n0_ n1_ n2_; clear ho hb hg hat))
      go_ret
      exact ⟨_, rfl, HO154.out, HB.out, HK.out⟩
     ·have hin : i < l0.length := by omega
      obtain ⟨g, cap, eu, _⟩ := Kd.R_form ho0 (by omega)
      subst eu
      obtain ⟨_, hcap, hmax, hbg, hPg, cur, hcu, hcs, hct⟩ := flat64.open_ ho0
      obtain ⟨b2, ok2, hv, hvn⟩ := hv2
      obtain ⟨gv, cv, ev, _⟩ := Kd.R_form hv (by simp)
      injection ev with ev1 ev2 ev3
      subst ev1 ev3
      obtain ⟨_, hcapv, hmaxv, _, hokv, curv, hcuv, hcsv, hctv⟩ := flat64.open_ hv
      have hne : gv ≠ g := fun e => hvn gv hokv (e ▸ hPg)
      have hs2 : k64.sz = 4 := rfl
      rw [hs2] at hcs hct hcsv hctv
      obtain ⟨A, hA⟩ : ∃ A, A = (l0.take i).flatMap enc64 := ⟨_, rfl⟩
      obtain ⟨B, hB_⟩ : ∃ B, B = (l0.drop i).flatMap enc64 := ⟨_, rfl⟩
      obtain ⟨V, hV⟩ : ∃ V, V = enc64 p := ⟨_, rfl⟩
      have hAl : A.length = i * 4 := by rw [hA, flat64.flen, hs2, List.length_take, Nat.min_eq_left (by omega)]
      have hBl : B.length = (l0.length - i) * 4 := by rw [hB_, flat64.flen, hs2, List.length_drop]
      have hVl : V.length = 4 := by rw [hV]; rfl
      have hB1 : ∀ v ∈ B, v.oneCell' = true := by rw [hB_]; exact flat64.fone _
      have hV1 : ∀ v ∈ V, v.oneCell' = true := by rw [hV]; exact flat64.one p
      have hct' : cur.toList.take (i * 4 + (l0.length - i) * 4) = A ++ B := by
       have e1 : i * 4 + (l0.length - i) * 4 = l0.length * 4 := by omega
       rw [e1, hct, hA, hB_, ← List.flatMap_append, List.take_append_drop]
      have hctA : cur.toList.take (i * 4) = A := by
       have := congrArg (List.take (i * 4)) hct'
       rwa [List.take_take, Nat.min_eq_left (by omega), List.take_left' hAl] at this
      have hctv' : curv.toList.take 4 = V := by
       have e1 : ([p] : List S64).length * 4 = 4 := rfl
       rw [e1] at hctv
       rw [hctv, hV]
       simp [List.flatMap_cons]
      have hres : (l0.take i ++ [p] ++ l0.drop i).flatMap enc64 = A ++ V ++ B := by
       rw [List.flatMap_append, List.flatMap_append, hA, hB_, hV]
       simp [List.flatMap_cons]
      have hrl : (l0.take i ++ [p] ++ l0.drop i).length = l0.length + 1 := by
       simp
       omega
      have hsz : (Try.prog.info? 64).map (·.size) = some 4 := by rw [hi3]; simp [hsz3]
      have hsf : ∀ W : World, (sizeOf 64).run Try.prog W = .ok 4 W := fun W => by simp [sizeOf, typeInfo, hi3, hsz3]
      have hw1 : IntKind.i64.wrap ((i : Int) + 1) = (i : Int) + 1 := by rw [IntKind.wrap_i64]; omega
      have hw2 : IntKind.i64.wrap ((l0.length : Int) + 1) = (l0.length : Int) + 1 := by rw [IntKind.wrap_i64]; omega
      have hni : ((i : Int) == (l0.length : Int)) = false := beq_eq_false_iff_ne.mpr (by omega)
      have HB := Aside0.mk hB
      have hc1 := cut_from_some (P := Try.prog) 57 64 .i64 Try.underlying57 hi3 4 hsz3 g 0 l0.length cap i (i : Int) rfl (by omega) (by omega)
      have hX : (A ++ B)[i * 4]? = B[0]? := by rw [List.getElem?_append_right (by omega), hAl, Nat.sub_self]
      have hsrcB : ∀ (W : World), W.heap[g]? = w.heap[g]? → ∀ j v, B[j]? = some v → W.cell? ((⟨g, i * 4, none⟩ : Addr).add j) = some v := fun W hW j v hj => by
       rw [Addr.add_lit]
       refine cell_of (hW.trans hcu) hct' ?_
       rw [List.getElem?_append_right (by omega), hAl, Nat.add_sub_cancel_left]
       exact hj
      have hsrcV : ∀ (W : World), W.heap[gv]? = w.heap[gv]? → ∀ j v, V[j]? = some v → W.cell? ((⟨gv, 0, none⟩ : Addr).add j) = some v := fun W hW j v hj => by
       rw [Addr.add_lit, Nat.zero_add]
       exact cell_of (hW.trans hcuv) hctv' hj
      by_cases q6 : l0.length + 1 ≤ cap
      ·have hgt : decide ((cap : Int) < (l0.length : Int) + 1) = false := decide_eq_false (by omega)
       have hov : ∀ lb cb, (callFunc 95 #[.slice (some ⟨gv, 0, none⟩) 1 c2, .slice (some ⟨g, (i + 1) * 4, none⟩) lb cb]).run Try.prog w = .ok (.value (.bool false)) w := fun lb cb => by
        rw [run_callFunc_extern Try.func95 (by kernel_rfl) (by kernel_rfl) (by kernel_rfl) (e := Extern.SlicesOverlaps.overlaps #[57, 57] #[4]) (by kernel_rfl),
         Lib.run_overlaps_apart w 57 4 64 Try.underlying57 4 hsf ⟨gv, 0, none⟩ ⟨g, (i + 1) * 4, none⟩ 1 c2 lb cb hne 64 64 curv.size cur.size (shape_of hcuv) (shape_of hcu) (by omega) (blk_frozen hcuv _) (blk_frozen hcuv _)]
        rfl
       have hc2 := cut_cap_to (P := Try.prog) 57 64 .i64 Try.underlying57 hi3 (some ⟨g, 0, none⟩) l0.length cap ((l0.length : Int) + 1) (l0.length + 1) (by omega) (by omega)
       have hc3 := cut_from_some (P := Try.prog) 57 64 .i64 Try.underlying57 hi3 4 hsz3 g 0 (l0.length + 1) cap (i + 1) ((i : Int) + 1) (by omega) (by omega) (by omega)
       have hc4 := cut_from_some (P := Try.prog) 57 64 .i64 Try.underlying57 hi3 4 hsz3 g 0 (l0.length + 1) cap i (i : Int) rfl (by omega) (by omega)
       simp only [Nat.zero_add] at hc1 hc3 hc4
       obtain ⟨W1, hW1⟩ : ∃ W1, W1 = w.drew.setCells g ((i + 1) * 4) B := ⟨_, rfl⟩
       obtain ⟨W2, hW2⟩ : ∃ W2, W2 = W1.setCells g (i * 4) V := ⟨_, rfl⟩
       have hk1 : W1.heap[g]? = some (.cells (over cur ((i + 1) * 4) B) 64 (0, 0)) := by rw [hW1]; exact heap_over _ _ _ _ hcu
       have hk2 : W2.heap[g]? = some (.cells (over (over cur ((i + 1) * 4) B) (i * 4) V) 64 (0, 0)) := by rw [hW2]; exact heap_over _ _ _ _ hk1
       have hm1 : Nat.min (l0.length + 1 - i) (l0.length + 1 - (i + 1)) = l0.length - i := by simp only [Nat.min_def]; split <;> omega
       have hm2 : Nat.min 1 (l0.length + 1 - i) = 1 := by simp only [Nat.min_def]; split <;> omega
       have hcp1 : ∀ ty, (Builtin.copy_ #[57, 57] ty #[.slice (some ⟨g, (i + 1) * 4, none⟩) (l0.length + 1 - (i + 1)) (cap - (i + 1)), .slice (some ⟨g, i * 4, none⟩) (l0.length + 1 - i) (cap - i)]).run Try.prog w.drew = .ok (goInt ((l0.length - i : Nat) : Int)) W1 := fun ty => by
        have := run_copy (P := Try.prog) w.drew 57 57 ty 64 4 g ((i + 1) * 4) (l0.length + 1 - (i + 1)) (cap - (i + 1)) ⟨g, i * 4, none⟩ (l0.length + 1 - i) (cap - i) B Try.underlying57 hsz (by rw [hBl, hm1]) (hsrcB w.drew rfl) (fun j hj => some_of (w := w.drew) (e := 64) hcu (by rw [hBl] at hj; omega)) (fun j hj => blk_frozen (w := w.drew) hcu _) hB1
        rw [hm1, ← hW1] at this
        exact this
       have hcp2 : ∀ ty, (Builtin.copy_ #[57, 57] ty #[.slice (some ⟨g, i * 4, none⟩) (l0.length + 1 - i) (cap - i), .slice (some ⟨gv, 0, none⟩) 1 c2]).run Try.prog W1 = .ok (goInt 1) W2 := fun ty => by
        have := run_copy (P := Try.prog) W1 57 57 ty 64 4 g (i * 4) (l0.length + 1 - i) (cap - i) ⟨gv, 0, none⟩ 1 c2 V Try.underlying57 hsz (by rw [hVl, hm2]) (hsrcV W1 (by rw [hW1]; exact heap_other gv hne _ _ _)) (fun j hj => some_of hk1 (by rw [hVl] at hj; rw [over_size]; omega)) (fun j hj => blk_frozen hk1 _) hV1
        rw [hm2, ← hW2] at this
        exact this
       have hfin : Kd.R k64 64 W2 w0.heap.size (fun k_ => (P0_ k_ ∨ w.heap.size ≤ k_)) (.slice (some ⟨g, 0, none⟩) (l0.length + 1) cap) (l0.take i ++ [p] ++ l0.drop i) := by
        have := flat64.mk_ (w := W2) (e := 64) (g := g) (c := cap) (base := w0.heap.size) (ok := fun k_ => (P0_ k_ ∨ w.heap.size ≤ k_)) (xs := l0.take i ++ [p] ++ l0.drop i) (.inl hPg) hbg (by omega) hmax hk2 (by rw [over_size, over_size]; exact hcs) (by
         rw [hres, hrl, hs2]
         have h5 := over_insert (cur := cur) hAl hVl hBl hct' (by omega)
         have e1 : i * 4 + 4 = (i + 1) * 4 := by omega
         have e2 : (i + 1) * 4 + (l0.length - i) * 4 = (l0.length + 1) * 4 := by omega
         rw [e1, e2] at h5
         exact h5)
        rw [hrl] at this
        exact this
       have hbel : Below w0.heap.size w0 W2 := by rw [hW2, hW1]; exact below_over hbg _ _ _ (below_over hbg _ _ _ (below_drew1 hB))
       have hkep : Kept w W2 (fun k_ => P0_ k_) := by rw [hW2, hW1]; exact kept_over (.inl hPg) _ _ _ (kept_over (.inl hPg) _ _ _ (Kept.drew (Kept.refl w _)))
       have HF := Aside0.mk hfin
       have HL := Aside0.mk hbel
       have HK := Aside0.mk hkep
       change Calls Try.prog 72 #[.slice (some ⟨g, 0, none⟩) l0.length cap, .int .i64 (i : Int), .slice (some ⟨gv, 0, none⟩) 1 c2] w _
       clear hfin hbel hkep hk1 hk2 hm1 hm2 hW1 hW2 hB ho0 hr2 hv hvn hcu hcuv hct hct' hctA hctv hctv' hres hrl hsf hsz hsrcB hsrcV hcs hcsv hA hB_ hV hAl hBl hVl hB1 hV1 hX hi3 hz3 hsz3 hby3 hbg hPg hokv hcapv hmaxv q1 q2 q3 hl1
       go_enter Try.func72, Try.ntmps72
       go_wp2_with (simp only [hov])
       go_region_law (refine ins_step_copy rfl _ _ 57 57 rfl _ _ (by simp [Act.eval, Act.put]) (by simp [Act.eval, Act.put]) (hcp1 _) ?_)
       go_wp2_with (at_builtin; refine ins_list_copy rfl _ _ 57 57 rfl _ _ rfl rfl (hcp2 _) ?_)
       go_ret
       exact ⟨_, rfl, HF.out, HL.out, HK.out⟩
      ·have hroom : cap < l0.length + 1 := by omega
       have hgt : decide ((cap : Int) < (l0.length : Int) + 1) = true := decide_eq_true (by omega)
       have hw3 : IntKind.i64.wrap ((l0.length : Int) + 1 - (i : Int)) = (l0.length : Int) + 1 - (i : Int) := by rw [IntKind.wrap_i64]; omega
       have hk9 : (l0.length : Int) + 1 - (i : Int) = ((l0.length + 1 - i : Nat) : Int) := by omega
       have hik : i + (l0.length + 1 - i) = l0.length + 1 := by omega
       have hc0 := cut_to (P := Try.prog) 57 64 .i64 Try.underlying57 hi3 (some ⟨g, 0, none⟩) l0.length cap (i : Int) (by omega) (by omega) hcap
       simp only [Int.toNat_natCast] at hc0
       have hold : (Builtin.firstCells i3.size i (.slice (some ⟨g, 0, none⟩) i cap)).run Try.prog w.drew = .ok A.toArray w.drew := by
        rw [hsz3]
        exact run_firstCells_some w.drew 4 i ⟨g, 0, none⟩ i cap A hAl (fun j v hj => by
         rw [Addr.add_lit, Nat.zero_add]
         exact cell_of (w := w.drew) hcu hctA hj)
       have hrz : ∀ ty, (Builtin.append_ #[57, 3] ty #[.slice (some ⟨g, 0, none⟩) i cap, .int .i64 ((l0.length : Int) + 1 - (i : Int))]).run Try.prog w = .ok (.slice (some ⟨w.heap.size, 0, none⟩) (l0.length + 1) (grownCap w (l0.length + 1) cap 64)) (w.drew.alloc (.cells (A.toArray ++ Builtin.zeroCells (.agg #[(.int .i64 0), (.int .i64 0), (.int .i64 0), (.int .i64 0)] : Value).cells (l0.length + 1 - i) ++ Builtin.zeroCells (.agg #[(.int .i64 0), (.int .i64 0), (.int .i64 0), (.int .i64 0)] : Value).cells (grownCap w (l0.length + 1) cap 64 - (l0.length + 1))) 64)) := fun ty => by
        have h := Lib.run_append_grow_zeros w 57 3 ty 64 i3 (.agg #[(.int .i64 0), (.int .i64 0), (.int .i64 0), (.int .i64 0)]) .i64 .i64 Try.underlying57 Try.underlying3 hi3 hz3 (some ⟨g, 0, none⟩) i cap A hold (l0.length + 1 - i) (by omega) (by omega) (by omega) (by omega) (by rw [hby3]; omega) (by rw [hby3, hik]; exact growslice_fits hroom (by omega))
        rw [hik] at h
        rw [hk9]
        exact h
       have hGn : l0.length + 1 ≤ grownCap w (l0.length + 1) cap 64 := grownCap_ge w _ _ _
       have hGm : grownCap w (l0.length + 1) cap 64 ≤ maxLen := grownCap_le_maxLen w (l0.length + 1) cap 64 (by unfold maxLen; omega)
       generalize grownCap w (l0.length + 1) cap 64 = G at hrz hGn hGm
       obtain ⟨ROW, hROW⟩ : ∃ ROW : Array Value, ROW = A.toArray ++ Builtin.zeroCells (.agg #[(.int .i64 0), (.int .i64 0), (.int .i64 0), (.int .i64 0)] : Value).cells (l0.length + 1 - i) ++ Builtin.zeroCells (.agg #[(.int .i64 0), (.int .i64 0), (.int .i64 0), (.int .i64 0)] : Value).cells (G - (l0.length + 1)) := ⟨_, rfl⟩
       rw [← hROW] at hrz
       have hRs : ROW.size = G * 4 := by
        rw [hROW]
        simp [Builtin.zeroCells, Value.cells, hAl]
        omega
       have hRt : ROW.toList.take (i * 4) = A := by
        rw [hROW]
        simp only [Array.toList_append, List.append_assoc]
        exact List.take_left' hAl
       obtain ⟨W1, hW1⟩ : ∃ W1, W1 = w.drew.alloc (.cells ROW 64) := ⟨_, rfl⟩
       rw [← hW1] at hrz
       have hgw : g < w.heap.size := blk_lt hcu
       have hgvw : gv < w.heap.size := blk_lt hcuv
       have hk1 : W1.heap[w.heap.size]? = some (.cells ROW 64 (0, 0)) := by
        rw [hW1]
        show (w.heap.push _)[w.heap.size]? = _
        exact Array.getElem?_push_size
       have hg1 : ∀ k, k < w.heap.size → W1.heap[k]? = w.heap[k]? := fun k hk => by
        rw [hW1]
        show (w.heap.push _)[k]? = _
        rw [Array.getElem?_push, if_neg (by omega)]
       obtain ⟨W2, hW2⟩ : ∃ W2, W2 = W1.setCells w.heap.size (i * 4) V := ⟨_, rfl⟩
       have hk2 : W2.heap[w.heap.size]? = some (.cells (over ROW (i * 4) V) 64 (0, 0)) := by rw [hW2]; exact heap_over _ _ _ _ hk1
       have hg2 : ∀ k, k < w.heap.size → W2.heap[k]? = w.heap[k]? := fun k hk => by rw [hW2]; exact (heap_other k (by omega) _ _ _).trans (hg1 k hk)
       obtain ⟨W3, hW3⟩ : ∃ W3, W3 = W2.drew.setCells w.heap.size ((i + 1) * 4) B := ⟨_, rfl⟩
       have hk3 : W3.heap[w.heap.size]? = some (.cells (over (over ROW (i * 4) V) ((i + 1) * 4) B) 64 (0, 0)) := by rw [hW3]; exact heap_over _ _ _ _ hk2
       have hc5 := cut_from_some (P := Try.prog) 57 64 .i64 Try.underlying57 hi3 4 hsz3 w.heap.size 0 (l0.length + 1) G i (i : Int) rfl (by omega) (by omega)
       have hc6 := cut_from_some (P := Try.prog) 57 64 .i64 Try.underlying57 hi3 4 hsz3 w.heap.size 0 (l0.length + 1) G (i + 1) ((i : Int) + 1) (by omega) (by omega) (by omega)
       simp only [Nat.zero_add] at hc1 hc5 hc6
       have hm1 : Nat.min 1 (l0.length + 1 - i) = 1 := by simp only [Nat.min_def]; split <;> omega
       have hm2 : Nat.min (l0.length - i) (l0.length + 1 - (i + 1)) = l0.length - i := by simp only [Nat.min_def]; split <;> omega
       have hcp1 : ∀ ty, (Builtin.copy_ #[57, 57] ty #[.slice (some ⟨w.heap.size, i * 4, none⟩) (l0.length + 1 - i) (G - i), .slice (some ⟨gv, 0, none⟩) 1 c2]).run Try.prog W1 = .ok (goInt 1) W2 := fun ty => by
        have := run_copy (P := Try.prog) W1 57 57 ty 64 4 w.heap.size (i * 4) (l0.length + 1 - i) (G - i) ⟨gv, 0, none⟩ 1 c2 V Try.underlying57 hsz (by rw [hVl, hm1]) (hsrcV W1 (hg1 gv hgvw)) (fun j hj => some_of hk1 (by rw [hVl] at hj; omega)) (fun j hj => blk_frozen hk1 _) hV1
        rw [hm1, ← hW2] at this
        exact this
       have hcp2 : ∀ ty, (Builtin.copy_ #[57, 57] ty #[.slice (some ⟨w.heap.size, (i + 1) * 4, none⟩) (l0.length + 1 - (i + 1)) (G - (i + 1)), .slice (some ⟨g, i * 4, none⟩) (l0.length - i) (cap - i)]).run Try.prog W2.drew = .ok (goInt ((l0.length - i : Nat) : Int)) W3 := fun ty => by
        have := run_copy (P := Try.prog) W2.drew 57 57 ty 64 4 w.heap.size ((i + 1) * 4) (l0.length + 1 - (i + 1)) (G - (i + 1)) ⟨g, i * 4, none⟩ (l0.length - i) (cap - i) B Try.underlying57 hsz (by rw [hBl, hm2]) (hsrcB W2.drew (hg2 g hgw)) (fun j hj => some_of (w := W2.drew) (e := 64) hk2 (by rw [hBl] at hj; rw [over_size]; omega)) (fun j hj => blk_frozen (w := W2.drew) hk2 _) hB1
        rw [hm2, ← hW3] at this
        exact this
       have hfin : Kd.R k64 64 W3 w0.heap.size (fun k_ => (P0_ k_ ∨ w.heap.size ≤ k_)) (.slice (some ⟨w.heap.size, 0, none⟩) (l0.length + 1) G) (l0.take i ++ [p] ++ l0.drop i) := by
        have := flat64.mk_ (w := W3) (e := 64) (g := w.heap.size) (c := G) (base := w0.heap.size) (ok := fun k_ => (P0_ k_ ∨ w.heap.size ≤ k_)) (xs := l0.take i ++ [p] ++ l0.drop i) (.inr (Nat.le_refl _)) hB.size (by omega) hGm hk3 (by rw [over_size, over_size]; exact hRs) (by
         rw [hres, hrl, hs2]
         have h5 := over_end (cur := ROW) hAl hVl hRt (by omega)
         have e1 : i * 4 + 4 = (i + 1) * 4 := by omega
         have e2 : (i + 1) * 4 + (l0.length - i) * 4 = (l0.length + 1) * 4 := by omega
         rw [e1] at h5
         have h6 := over_end (cur := over ROW (i * 4) V) (A := A ++ V) (V := B) (p := (i + 1) * 4) (by rw [List.length_append, hAl, hVl]; omega) hBl h5 (by rw [over_size]; omega)
         rw [e2] at h6
         exact h6)
        rw [hrl] at this
        exact this
       have hbel : Below w0.heap.size w0 W3 := by rw [hW3, hW2, hW1]; exact below_over hB.size _ _ _ (below_drew1 (below_over hB.size _ _ _ (below_alloc (below_drew1 hB) _)))
       have hkep : Kept w W3 (fun k_ => P0_ k_) := by rw [hW3, hW2, hW1]; exact kept_over (.inr (Nat.le_refl _)) _ _ _ (Kept.drew (kept_over (.inr (Nat.le_refl _)) _ _ _ (Kept.alloc (Kept.drew (Kept.refl w _)) _)))
       have HF := Aside0.mk hfin
       have HL := Aside0.mk hbel
       have HK := Aside0.mk hkep
       change Calls Try.prog 72 #[.slice (some ⟨g, 0, none⟩) l0.length cap, .int .i64 (i : Int), .slice (some ⟨gv, 0, none⟩) 1 c2] w _
       clear hfin hbel hkep hk1 hk2 hk3 hg1 hg2 hm1 hm2 hW1 hW2 hW3 hB ho0 hr2 hv hvn hcu hcuv hct hct' hctA hctv hctv' hres hrl hsf hsz hsrcB hsrcV hcs hcsv hA hB_ hV hAl hBl hVl hB1 hV1 hX hi3 hz3 hsz3 hby3 hbg hPg hokv hcapv hmaxv q1 q2 q3 hl1 hold hROW hRs hRt hgw hgvw hk9 hik
       go_enter Try.func72, Try.ntmps72
       go_wp2_with (first
        | (at_builtin; refine Lib.wpList_append_run _ rfl _ _ _ _ rfl _ _ rfl rfl _ _ (hrz _) ?_)
        | (at_builtin; refine ins_list_copy rfl _ _ 57 57 rfl _ _ rfl rfl (hcp1 _) ?_))
       go_region_law (refine ins_step_copy rfl _ _ 57 57 rfl _ _ (by simp [Act.eval, Act.put]) (by simp [Act.eval, Act.put]) (hcp2 _) ?_)
       go_wp2
       go_ret
       exact ⟨_, rfl, HF.out, HL.out, HK.out⟩
    ·rw [if_neg q4] at h
     cases h
   ·rw [if_neg q3] at h
    cases h
  ·rw [if_neg q2] at h
   cases h
 ·rw [if_neg q1] at h
  cases h

end Go.Proofs.Ytpoafgokngpglaa.PFnBinds
