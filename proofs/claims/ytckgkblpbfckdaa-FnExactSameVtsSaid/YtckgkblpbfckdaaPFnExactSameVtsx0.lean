-- Written for this claim by a program of this session's (wip/p2.sh).
import Derived.Test.YtckgkblpbfckdaaProg
import Derived.Test.YtckgkblpbfckdaaQgCells
import Derived.Below
import Derived.Deep.Draws
import Derived.Deep.AppendLies
import Derived.Maps.AppendAt
import Derived.OwnWalk
import Derived.Laws.BytesArg
import Derived.Laws.MakeOwn
import Derived.Laws.OwnMore
import Derived.Deep.OwnRows
import Derived.Tactics
import Derived.Lib.ConvBytes
import Derived.Laws.Slices
import Derived.WalkKit
import Derived.KernelRfl
import Derived.RowKit3
import Derived.Deep.LoopGhost
import Derived.Deep.QuietTactic
import Derived.BigQuiet
import Derived.WideLaws
import Derived.Deep.DeepCutAuto
import Derived.Deep.CutBlock
import Derived.Deep.RegionHeld3
import Derived.Laws.Rows
import Derived.Lib.AppendStr
import Derived.ArgAppend
import Derived.Laws.IdiomCopy
import Derived.OrdersHeld
import Derived.Laws.BitsLemmas
import Derived.RowKit
import Derived.Test.YtckgkblpbfckdaaQgWords
namespace Go.Proofs.Ytckgkblpbfckdaa.PFnExactSameVts
open Go.RowKit Go.Proofs.YtckgkblpbfckdaaW.PrintWords Go.Proofs.YtckgkblpbfckdaaW.PrintLast Go.Proofs.YtckgkblpbfckdaaW.PrintMore
attribute [local go_sem] max2_int min2_int max_two min_two max_three min_three max_four min_four   -- for this text's walks alone
set_option linter.unusedVariables false
set_option linter.unusedSimpArgs false



def errW : Option Int → Value
 | none => .nilIface
 | some c => .iface 0 (.int .i64 c)
theorem errW_none : errW none = .nilIface := rfl
theorem errW_some (c : Int) : errW (some c) = .iface 0 (.int .i64 c) := rfl

theorem info2 : (Try.prog.info? 2).map (fun i => (i.zero, i.size, i.bytes)) = some (some (.int .i64 0), 1, 8) := by kernel_rfl
theorem info4 : (Try.prog.info? 4).map (fun i => (i.zero, i.size, i.bytes)) = some (some (.bool false), 1, 1) := by kernel_rfl
theorem info74 : (Try.prog.info? 74).map (fun i => (i.zero, i.size, i.bytes)) = some (some (.agg #[(.int .i64 0), (.int .i64 0)]), 2, 16) := by kernel_rfl
-- the values' own types
/-! #### struct type 77 -/
structure S77 where
  f0 : Int
  f1 : Int
def z77 : S77 := ⟨(0 : Int), (0 : Int)⟩
def k77 : Kd S77 := Kd.iso (Kd.pair (Kd.int .i64) (Kd.int .i64)) (fun x : S77 => (x.f0, x.f1))
theorem k77_open {w : World} {x : S77} {cs : List Value} (h : k77.K w x cs) : cs = [.int .i64 x.f0, .int .i64 x.f1] := by
 obtain ⟨_, _, rfl, rfl, rfl⟩ := h
 exact rfl
theorem k77_openM {w : World} {base : Nat} {ok : Nat → Prop} {x : S77} {cs : List Value} (h : k77.M w base ok x cs) : cs = [.int .i64 x.f0, .int .i64 x.f1] := by
 obtain ⟨_, _, rfl, rfl, rfl⟩ := h
 exact rfl
theorem k77_mk (w : World) (x : S77)  : k77.K w x [.int .i64 x.f0, .int .i64 x.f1] := ⟨[.int .i64 x.f0], [.int .i64 x.f1], rfl, rfl, rfl⟩
theorem k77_mkM (w : World) (base : Nat) (ok : Nat → Prop) (x : S77)  : k77.M w base ok x [.int .i64 x.f0, .int .i64 x.f1] := ⟨[.int .i64 x.f0], [.int .i64 x.f1], rfl, rfl, rfl⟩
def rd_T77 (xs : List S77) (i : Int) : S77 := xs.getD i.toNat z77
theorem at_T77 {w : World} {A : Option Addr} {n : Nat} {xs : List S77} (h : Kd.C k77 w A n xs) (i : Int) (h0 : 0 ≤ i) (h1 : i < n) : ∃ ad , A = some ad ∧ w.cell? (ad.add (i.toNat * 2)) = some (.int .i64 (rd_T77 xs i).f0) ∧ w.cell? ⟨(ad.add (i.toNat * 2)).block, (ad.add (i.toNat * 2)).off + 1, none⟩ = some (.int .i64 (rd_T77 xs i).f1) := by
 obtain ⟨ad, c, e, _, hK, hc0⟩ := Kd.C_get h z77 i h0 h1
 have hc : ∀ j u, c[j]? = some u → w.cell? (ad.add (i.toNat * 2 + j)) = some u := hc0
 obtain rfl := k77_open hK
 exact ⟨ad, e, hc 0 _ rfl, by rw [← add_field _ _ 1 (by omega)]; exact hc 1 _ rfl⟩

/-! #### struct type 74 -/
structure S74 where
  f0 : Int
  f1 : Int
def z74 : S74 := ⟨(0 : Int), (0 : Int)⟩
def k74 : Kd S74 := Kd.iso (Kd.pair (Kd.int .i64) (Kd.int .i64)) (fun x : S74 => (x.f0, x.f1))
theorem k74_open {w : World} {x : S74} {cs : List Value} (h : k74.K w x cs) : cs = [.int .i64 x.f0, .int .i64 x.f1] := by
 obtain ⟨_, _, rfl, rfl, rfl⟩ := h
 exact rfl
theorem k74_openM {w : World} {base : Nat} {ok : Nat → Prop} {x : S74} {cs : List Value} (h : k74.M w base ok x cs) : cs = [.int .i64 x.f0, .int .i64 x.f1] := by
 obtain ⟨_, _, rfl, rfl, rfl⟩ := h
 exact rfl
theorem k74_mk (w : World) (x : S74)  : k74.K w x [.int .i64 x.f0, .int .i64 x.f1] := ⟨[.int .i64 x.f0], [.int .i64 x.f1], rfl, rfl, rfl⟩
theorem k74_mkM (w : World) (base : Nat) (ok : Nat → Prop) (x : S74)  : k74.M w base ok x [.int .i64 x.f0, .int .i64 x.f1] := ⟨[.int .i64 x.f0], [.int .i64 x.f1], rfl, rfl, rfl⟩
def rd_T74 (xs : List S74) (i : Int) : S74 := xs.getD i.toNat z74
theorem at_T74 {w : World} {A : Option Addr} {n : Nat} {xs : List S74} (h : Kd.C k74 w A n xs) (i : Int) (h0 : 0 ≤ i) (h1 : i < n) : ∃ ad , A = some ad ∧ w.cell? (ad.add (i.toNat * 2)) = some (.int .i64 (rd_T74 xs i).f0) ∧ w.cell? ⟨(ad.add (i.toNat * 2)).block, (ad.add (i.toNat * 2)).off + 1, none⟩ = some (.int .i64 (rd_T74 xs i).f1) := by
 obtain ⟨ad, c, e, _, hK, hc0⟩ := Kd.C_get h z74 i h0 h1
 have hc : ∀ j u, c[j]? = some u → w.cell? (ad.add (i.toNat * 2 + j)) = some u := hc0
 obtain rfl := k74_open hK
 exact ⟨ad, e, hc 0 _ rfl, by rw [← add_field _ _ 1 (by omega)]; exact hc 1 _ rfl⟩

/-! #### struct type 23 -/
structure S23 where
  f0 : Int
  f1 : Int
  f2 : Int
def z23 : S23 := ⟨(0 : Int), (0 : Int), (0 : Int)⟩
def k23 : Kd S23 := Kd.iso (Kd.pair (Kd.int .i64) (Kd.pair (Kd.int .i64) (Kd.int .i64))) (fun x : S23 => (x.f0, x.f1, x.f2))
theorem k23_open {w : World} {x : S23} {cs : List Value} (h : k23.K w x cs) : cs = [.int .i64 x.f0, .int .i64 x.f1, .int .i64 x.f2] := by
 obtain ⟨_, _, rfl, rfl, ⟨_, _, rfl, rfl, rfl⟩⟩ := h
 exact rfl
theorem k23_openM {w : World} {base : Nat} {ok : Nat → Prop} {x : S23} {cs : List Value} (h : k23.M w base ok x cs) : cs = [.int .i64 x.f0, .int .i64 x.f1, .int .i64 x.f2] := by
 obtain ⟨_, _, rfl, rfl, ⟨_, _, rfl, rfl, rfl⟩⟩ := h
 exact rfl
theorem k23_mk (w : World) (x : S23)  : k23.K w x [.int .i64 x.f0, .int .i64 x.f1, .int .i64 x.f2] := ⟨[.int .i64 x.f0], [.int .i64 x.f1, .int .i64 x.f2], rfl, rfl, ⟨[.int .i64 x.f1], [.int .i64 x.f2], rfl, rfl, rfl⟩⟩
theorem k23_mkM (w : World) (base : Nat) (ok : Nat → Prop) (x : S23)  : k23.M w base ok x [.int .i64 x.f0, .int .i64 x.f1, .int .i64 x.f2] := ⟨[.int .i64 x.f0], [.int .i64 x.f1, .int .i64 x.f2], rfl, rfl, ⟨[.int .i64 x.f1], [.int .i64 x.f2], rfl, rfl, rfl⟩⟩
def rd_T23 (xs : List S23) (i : Int) : S23 := xs.getD i.toNat z23
theorem at_T23 {w : World} {A : Option Addr} {n : Nat} {xs : List S23} (h : Kd.C k23 w A n xs) (i : Int) (h0 : 0 ≤ i) (h1 : i < n) : ∃ ad , A = some ad ∧ w.cell? (ad.add (i.toNat * 3)) = some (.int .i64 (rd_T23 xs i).f0) ∧ w.cell? ⟨(ad.add (i.toNat * 3)).block, (ad.add (i.toNat * 3)).off + 1, none⟩ = some (.int .i64 (rd_T23 xs i).f1) ∧ w.cell? ⟨(ad.add (i.toNat * 3)).block, (ad.add (i.toNat * 3)).off + 2, none⟩ = some (.int .i64 (rd_T23 xs i).f2) := by
 obtain ⟨ad, c, e, _, hK, hc0⟩ := Kd.C_get h z23 i h0 h1
 have hc : ∀ j u, c[j]? = some u → w.cell? (ad.add (i.toNat * 3 + j)) = some u := hc0
 obtain rfl := k23_open hK
 exact ⟨ad, e, hc 0 _ rfl, by rw [← add_field _ _ 1 (by omega)]; exact hc 1 _ rfl, by rw [← add_field _ _ 2 (by omega)]; exact hc 2 _ rfl⟩

def rd_L5 (xs : List (List Int)) (i : Int) : (List Int) := xs.getD i.toNat ([] : List Int)
theorem at_L5 {w : World} {A : Option Addr} {n : Nat} {xs : List (List Int)} (h : Kd.C (Kd.slice 2 (Kd.int .i64)) w A n xs) (i : Int) (h0 : 0 ≤ i) (h1 : i < n) : ∃ ad A0 c0, A = some ad ∧ w.cell? (ad.add i.toNat) = some (.slice A0 (rd_L5 xs i).length c0) ∧ (rd_L5 xs i).length ≤ c0 ∧ (Kd.int .i64).C w A0 (rd_L5 xs i).length (rd_L5 xs i) := by
 obtain ⟨ad, c, e, _, hK, hc0⟩ := Kd.C_get h ([] : List Int) i h0 h1
 have hc : ∀ j u, c[j]? = some u → w.cell? (ad.add (i.toNat * 1 + j)) = some u := hc0
 obtain ⟨A0, c0, rfl, l0, g0⟩ := hK
 exact ⟨ad, A0, c0, e, by have hq := hc 0 _ rfl; rwa [Nat.mul_one, Nat.add_zero] at hq, l0, g0⟩

/-! #### struct type 26 -/
structure S26 where
  f0 : Int
  f1 : Int
  f2 : Bool
  f3 : (List Int)
def z26 : S26 := ⟨(0 : Int), (0 : Int), false, ([] : List Int)⟩
def k26 : Kd S26 := Kd.iso (Kd.pair (Kd.int .i64) (Kd.pair (Kd.int .i64) (Kd.pair Kd.bool (Kd.slice 2 (Kd.int .i64))))) (fun x : S26 => (x.f0, x.f1, x.f2, x.f3))
theorem k26_open {w : World} {x : S26} {cs : List Value} (h : k26.K w x cs) : ∃ A3 c3, cs = [.int .i64 x.f0, .int .i64 x.f1, .bool x.f2, .slice A3 x.f3.length c3] ∧ x.f3.length ≤ c3 ∧ (Kd.int .i64).C w A3 x.f3.length x.f3 := by
 obtain ⟨_, _, rfl, rfl, ⟨_, _, rfl, rfl, ⟨_, _, rfl, rfl, ⟨A3, c3, rfl, l3, g3⟩⟩⟩⟩ := h
 exact ⟨A3, c3, rfl, l3, g3⟩
theorem k26_openM {w : World} {base : Nat} {ok : Nat → Prop} {x : S26} {cs : List Value} (h : k26.M w base ok x cs) : ∃ v3, cs = [.int .i64 x.f0, .int .i64 x.f1, .bool x.f2, v3] ∧ (Kd.int .i64).R 2 w base ok v3 x.f3 := by
 obtain ⟨_, _, rfl, rfl, ⟨_, _, rfl, rfl, ⟨_, _, rfl, rfl, ⟨v3, rfl, g3⟩⟩⟩⟩ := h
 exact ⟨v3, rfl, g3⟩
theorem k26_mk (w : World) (x : S26) {A3 : Option Addr} {c3 : Nat} (l3 : x.f3.length ≤ c3) (g3 : (Kd.int .i64).C w A3 x.f3.length x.f3) : k26.K w x [.int .i64 x.f0, .int .i64 x.f1, .bool x.f2, .slice A3 x.f3.length c3] := ⟨[.int .i64 x.f0], [.int .i64 x.f1, .bool x.f2, .slice A3 x.f3.length c3], rfl, rfl, ⟨[.int .i64 x.f1], [.bool x.f2, .slice A3 x.f3.length c3], rfl, rfl, ⟨[.bool x.f2], [.slice A3 x.f3.length c3], rfl, rfl, ⟨A3, c3, rfl, l3, g3⟩⟩⟩⟩
theorem k26_mkM (w : World) (base : Nat) (ok : Nat → Prop) (x : S26) {v3 : Value} (g3 : (Kd.int .i64).R 2 w base ok v3 x.f3) : k26.M w base ok x [.int .i64 x.f0, .int .i64 x.f1, .bool x.f2, v3] := ⟨[.int .i64 x.f0], [.int .i64 x.f1, .bool x.f2, v3], rfl, rfl, ⟨[.int .i64 x.f1], [.bool x.f2, v3], rfl, rfl, ⟨[.bool x.f2], [v3], rfl, rfl, ⟨v3, rfl, g3⟩⟩⟩⟩
def rd_T26 (xs : List S26) (i : Int) : S26 := xs.getD i.toNat z26
theorem at_T26 {w : World} {A : Option Addr} {n : Nat} {xs : List S26} (h : Kd.C k26 w A n xs) (i : Int) (h0 : 0 ≤ i) (h1 : i < n) : ∃ ad A3 c3, A = some ad ∧ w.cell? (ad.add (i.toNat * 4)) = some (.int .i64 (rd_T26 xs i).f0) ∧ w.cell? ⟨(ad.add (i.toNat * 4)).block, (ad.add (i.toNat * 4)).off + 1, none⟩ = some (.int .i64 (rd_T26 xs i).f1) ∧ w.cell? ⟨(ad.add (i.toNat * 4)).block, (ad.add (i.toNat * 4)).off + 2, none⟩ = some (.bool (rd_T26 xs i).f2) ∧ w.cell? ⟨(ad.add (i.toNat * 4)).block, (ad.add (i.toNat * 4)).off + 3, none⟩ = some (.slice A3 (rd_T26 xs i).f3.length c3) ∧ (rd_T26 xs i).f3.length ≤ c3 ∧ (Kd.int .i64).C w A3 (rd_T26 xs i).f3.length (rd_T26 xs i).f3 := by
 obtain ⟨ad, c, e, _, hK, hc0⟩ := Kd.C_get h z26 i h0 h1
 have hc : ∀ j u, c[j]? = some u → w.cell? (ad.add (i.toNat * 4 + j)) = some u := hc0
 obtain ⟨A3, c3, rfl, l3, g3⟩ := k26_open hK
 exact ⟨ad, A3, c3, e, hc 0 _ rfl, by rw [← add_field _ _ 1 (by omega)]; exact hc 1 _ rfl, by rw [← add_field _ _ 2 (by omega)]; exact hc 2 _ rfl, by rw [← add_field _ _ 3 (by omega)]; exact hc 3 _ rfl, l3, g3⟩

def rd_L7 (xs : List (List S77)) (i : Int) : (List S77) := xs.getD i.toNat ([] : List S77)
theorem at_L7 {w : World} {A : Option Addr} {n : Nat} {xs : List (List S77)} (h : Kd.C (Kd.slice 77 k77) w A n xs) (i : Int) (h0 : 0 ≤ i) (h1 : i < n) : ∃ ad A0 c0, A = some ad ∧ w.cell? (ad.add i.toNat) = some (.slice A0 (rd_L7 xs i).length c0) ∧ (rd_L7 xs i).length ≤ c0 ∧ k77.C w A0 (rd_L7 xs i).length (rd_L7 xs i) := by
 obtain ⟨ad, c, e, _, hK, hc0⟩ := Kd.C_get h ([] : List S77) i h0 h1
 have hc : ∀ j u, c[j]? = some u → w.cell? (ad.add (i.toNat * 1 + j)) = some u := hc0
 obtain ⟨A0, c0, rfl, l0, g0⟩ := hK
 exact ⟨ad, A0, c0, e, by have hq := hc 0 _ rfl; rwa [Nat.mul_one, Nat.add_zero] at hq, l0, g0⟩

/-! #### struct type 29 -/
structure S29 where
  f0 : Int
  f1 : Int
  f2 : (List S77)
  f3 : (List S77)
def z29 : S29 := ⟨(0 : Int), (0 : Int), ([] : List S77), ([] : List S77)⟩
def k29 : Kd S29 := Kd.iso (Kd.pair (Kd.int .i64) (Kd.pair (Kd.int .i64) (Kd.pair (Kd.slice 77 k77) (Kd.slice 77 k77)))) (fun x : S29 => (x.f0, x.f1, x.f2, x.f3))
theorem k29_open {w : World} {x : S29} {cs : List Value} (h : k29.K w x cs) : ∃ A2 c2 A3 c3, cs = [.int .i64 x.f0, .int .i64 x.f1, .slice A2 x.f2.length c2, .slice A3 x.f3.length c3] ∧ x.f2.length ≤ c2 ∧ k77.C w A2 x.f2.length x.f2 ∧ x.f3.length ≤ c3 ∧ k77.C w A3 x.f3.length x.f3 := by
 obtain ⟨_, _, rfl, rfl, ⟨_, _, rfl, rfl, ⟨_, _, rfl, ⟨A2, c2, rfl, l2, g2⟩, ⟨A3, c3, rfl, l3, g3⟩⟩⟩⟩ := h
 exact ⟨A2, c2, A3, c3, rfl, l2, g2, l3, g3⟩
theorem k29_openM {w : World} {base : Nat} {ok : Nat → Prop} {x : S29} {cs : List Value} (h : k29.M w base ok x cs) : ∃ v2 v3, cs = [.int .i64 x.f0, .int .i64 x.f1, v2, v3] ∧ k77.R 77 w base ok v2 x.f2 ∧ k77.R 77 w base ok v3 x.f3 := by
 obtain ⟨_, _, rfl, rfl, ⟨_, _, rfl, rfl, ⟨_, _, rfl, ⟨v2, rfl, g2⟩, ⟨v3, rfl, g3⟩⟩⟩⟩ := h
 exact ⟨v2, v3, rfl, g2, g3⟩
theorem k29_mk (w : World) (x : S29) {A2 : Option Addr} {c2 : Nat} (l2 : x.f2.length ≤ c2) (g2 : k77.C w A2 x.f2.length x.f2) {A3 : Option Addr} {c3 : Nat} (l3 : x.f3.length ≤ c3) (g3 : k77.C w A3 x.f3.length x.f3) : k29.K w x [.int .i64 x.f0, .int .i64 x.f1, .slice A2 x.f2.length c2, .slice A3 x.f3.length c3] := ⟨[.int .i64 x.f0], [.int .i64 x.f1, .slice A2 x.f2.length c2, .slice A3 x.f3.length c3], rfl, rfl, ⟨[.int .i64 x.f1], [.slice A2 x.f2.length c2, .slice A3 x.f3.length c3], rfl, rfl, ⟨[.slice A2 x.f2.length c2], [.slice A3 x.f3.length c3], rfl, ⟨A2, c2, rfl, l2, g2⟩, ⟨A3, c3, rfl, l3, g3⟩⟩⟩⟩
theorem k29_mkM (w : World) (base : Nat) (ok : Nat → Prop) (x : S29) {v2 : Value} (g2 : k77.R 77 w base ok v2 x.f2) {v3 : Value} (g3 : k77.R 77 w base ok v3 x.f3) : k29.M w base ok x [.int .i64 x.f0, .int .i64 x.f1, v2, v3] := ⟨[.int .i64 x.f0], [.int .i64 x.f1, v2, v3], rfl, rfl, ⟨[.int .i64 x.f1], [v2, v3], rfl, rfl, ⟨[v2], [v3], rfl, ⟨v2, rfl, g2⟩, ⟨v3, rfl, g3⟩⟩⟩⟩
def rd_T29 (xs : List S29) (i : Int) : S29 := xs.getD i.toNat z29
theorem at_T29 {w : World} {A : Option Addr} {n : Nat} {xs : List S29} (h : Kd.C k29 w A n xs) (i : Int) (h0 : 0 ≤ i) (h1 : i < n) : ∃ ad A2 c2 A3 c3, A = some ad ∧ w.cell? (ad.add (i.toNat * 4)) = some (.int .i64 (rd_T29 xs i).f0) ∧ w.cell? ⟨(ad.add (i.toNat * 4)).block, (ad.add (i.toNat * 4)).off + 1, none⟩ = some (.int .i64 (rd_T29 xs i).f1) ∧ w.cell? ⟨(ad.add (i.toNat * 4)).block, (ad.add (i.toNat * 4)).off + 2, none⟩ = some (.slice A2 (rd_T29 xs i).f2.length c2) ∧ w.cell? ⟨(ad.add (i.toNat * 4)).block, (ad.add (i.toNat * 4)).off + 3, none⟩ = some (.slice A3 (rd_T29 xs i).f3.length c3) ∧ (rd_T29 xs i).f2.length ≤ c2 ∧ k77.C w A2 (rd_T29 xs i).f2.length (rd_T29 xs i).f2 ∧ (rd_T29 xs i).f3.length ≤ c3 ∧ k77.C w A3 (rd_T29 xs i).f3.length (rd_T29 xs i).f3 := by
 obtain ⟨ad, c, e, _, hK, hc0⟩ := Kd.C_get h z29 i h0 h1
 have hc : ∀ j u, c[j]? = some u → w.cell? (ad.add (i.toNat * 4 + j)) = some u := hc0
 obtain ⟨A2, c2, A3, c3, rfl, l2, g2, l3, g3⟩ := k29_open hK
 exact ⟨ad, A2, c2, A3, c3, e, hc 0 _ rfl, by rw [← add_field _ _ 1 (by omega)]; exact hc 1 _ rfl, by rw [← add_field _ _ 2 (by omega)]; exact hc 2 _ rfl, by rw [← add_field _ _ 3 (by omega)]; exact hc 3 _ rfl, l2, g2, l3, g3⟩

def rd_L9 (xs : List (List Bool)) (i : Int) : (List Bool) := xs.getD i.toNat ([] : List Bool)
theorem at_L9 {w : World} {A : Option Addr} {n : Nat} {xs : List (List Bool)} (h : Kd.C (Kd.slice 4 Kd.bool) w A n xs) (i : Int) (h0 : 0 ≤ i) (h1 : i < n) : ∃ ad A0 c0, A = some ad ∧ w.cell? (ad.add i.toNat) = some (.slice A0 (rd_L9 xs i).length c0) ∧ (rd_L9 xs i).length ≤ c0 ∧ Kd.bool.C w A0 (rd_L9 xs i).length (rd_L9 xs i) := by
 obtain ⟨ad, c, e, _, hK, hc0⟩ := Kd.C_get h ([] : List Bool) i h0 h1
 have hc : ∀ j u, c[j]? = some u → w.cell? (ad.add (i.toNat * 1 + j)) = some u := hc0
 obtain ⟨A0, c0, rfl, l0, g0⟩ := hK
 exact ⟨ad, A0, c0, e, by have hq := hc 0 _ rfl; rwa [Nat.mul_one, Nat.add_zero] at hq, l0, g0⟩

/-! #### struct type 32 -/
structure S32 where
  f0 : S29
  f1 : Int
  f2 : Int
  f3 : Bool
  f4 : Int
  f5 : Int
  f6 : Int
  f7 : Bool
  f8 : Bool
  f9 : Bool
  f10 : (List Bool)
  f11 : Int
  f12 : Int
  f13 : Int
  f14 : (List Int)
  f15 : Int
  f16 : Int
def z32 : S32 := ⟨z29, (0 : Int), (0 : Int), false, (0 : Int), (0 : Int), (0 : Int), false, false, false, ([] : List Bool), (0 : Int), (0 : Int), (0 : Int), ([] : List Int), (0 : Int), (0 : Int)⟩
def k32 : Kd S32 := Kd.iso (Kd.pair k29 (Kd.pair (Kd.int .i64) (Kd.pair (Kd.int .i64) (Kd.pair Kd.bool (Kd.pair (Kd.int .i64) (Kd.pair (Kd.int .i64) (Kd.pair (Kd.int .i64) (Kd.pair Kd.bool (Kd.pair Kd.bool (Kd.pair Kd.bool (Kd.pair (Kd.slice 4 Kd.bool) (Kd.pair (Kd.int .i64) (Kd.pair (Kd.int .i64) (Kd.pair (Kd.int .i64) (Kd.pair (Kd.slice 2 (Kd.int .i64)) (Kd.pair (Kd.int .i64) (Kd.int .i64))))))))))))))))) (fun x : S32 => (x.f0, x.f1, x.f2, x.f3, x.f4, x.f5, x.f6, x.f7, x.f8, x.f9, x.f10, x.f11, x.f12, x.f13, x.f14, x.f15, x.f16))
theorem k32_open {w : World} {x : S32} {cs : List Value} (h : k32.K w x cs) : ∃ A2 c2 A3 c3 A13 c13 A17 c17, cs = [.int .i64 x.f0.f0, .int .i64 x.f0.f1, .slice A2 x.f0.f2.length c2, .slice A3 x.f0.f3.length c3, .int .i64 x.f1, .int .i64 x.f2, .bool x.f3, .int .i64 x.f4, .int .i64 x.f5, .int .i64 x.f6, .bool x.f7, .bool x.f8, .bool x.f9, .slice A13 x.f10.length c13, .int .i64 x.f11, .int .i64 x.f12, .int .i64 x.f13, .slice A17 x.f14.length c17, .int .i64 x.f15, .int .i64 x.f16] ∧ x.f0.f2.length ≤ c2 ∧ k77.C w A2 x.f0.f2.length x.f0.f2 ∧ x.f0.f3.length ≤ c3 ∧ k77.C w A3 x.f0.f3.length x.f0.f3 ∧ x.f10.length ≤ c13 ∧ Kd.bool.C w A13 x.f10.length x.f10 ∧ x.f14.length ≤ c17 ∧ (Kd.int .i64).C w A17 x.f14.length x.f14 := by
 obtain ⟨_, _, rfl, s0, ⟨_, _, rfl, rfl, ⟨_, _, rfl, rfl, ⟨_, _, rfl, rfl, ⟨_, _, rfl, rfl, ⟨_, _, rfl, rfl, ⟨_, _, rfl, rfl, ⟨_, _, rfl, rfl, ⟨_, _, rfl, rfl, ⟨_, _, rfl, rfl, ⟨_, _, rfl, ⟨A13, c13, rfl, l13, g13⟩, ⟨_, _, rfl, rfl, ⟨_, _, rfl, rfl, ⟨_, _, rfl, rfl, ⟨_, _, rfl, ⟨A17, c17, rfl, l17, g17⟩, ⟨_, _, rfl, rfl, rfl⟩⟩⟩⟩⟩⟩⟩⟩⟩⟩⟩⟩⟩⟩⟩⟩ := h
 obtain ⟨A2, c2, A3, c3, rfl, l2, g2, l3, g3⟩ := k29_open s0
 exact ⟨A2, c2, A3, c3, A13, c13, A17, c17, rfl, l2, g2, l3, g3, l13, g13, l17, g17⟩
theorem k32_openM {w : World} {base : Nat} {ok : Nat → Prop} {x : S32} {cs : List Value} (h : k32.M w base ok x cs) : ∃ v2 v3 v13 v17, cs = [.int .i64 x.f0.f0, .int .i64 x.f0.f1, v2, v3, .int .i64 x.f1, .int .i64 x.f2, .bool x.f3, .int .i64 x.f4, .int .i64 x.f5, .int .i64 x.f6, .bool x.f7, .bool x.f8, .bool x.f9, v13, .int .i64 x.f11, .int .i64 x.f12, .int .i64 x.f13, v17, .int .i64 x.f15, .int .i64 x.f16] ∧ k77.R 77 w base ok v2 x.f0.f2 ∧ k77.R 77 w base ok v3 x.f0.f3 ∧ Kd.bool.R 4 w base ok v13 x.f10 ∧ (Kd.int .i64).R 2 w base ok v17 x.f14 := by
 obtain ⟨_, _, rfl, s0, ⟨_, _, rfl, rfl, ⟨_, _, rfl, rfl, ⟨_, _, rfl, rfl, ⟨_, _, rfl, rfl, ⟨_, _, rfl, rfl, ⟨_, _, rfl, rfl, ⟨_, _, rfl, rfl, ⟨_, _, rfl, rfl, ⟨_, _, rfl, rfl, ⟨_, _, rfl, ⟨v13, rfl, g13⟩, ⟨_, _, rfl, rfl, ⟨_, _, rfl, rfl, ⟨_, _, rfl, rfl, ⟨_, _, rfl, ⟨v17, rfl, g17⟩, ⟨_, _, rfl, rfl, rfl⟩⟩⟩⟩⟩⟩⟩⟩⟩⟩⟩⟩⟩⟩⟩⟩ := h
 obtain ⟨v2, v3, rfl, g2, g3⟩ := k29_openM s0
 exact ⟨v2, v3, v13, v17, rfl, g2, g3, g13, g17⟩
theorem k32_mk (w : World) (x : S32) {A2 : Option Addr} {c2 : Nat} (l2 : x.f0.f2.length ≤ c2) (g2 : k77.C w A2 x.f0.f2.length x.f0.f2) {A3 : Option Addr} {c3 : Nat} (l3 : x.f0.f3.length ≤ c3) (g3 : k77.C w A3 x.f0.f3.length x.f0.f3) {A13 : Option Addr} {c13 : Nat} (l13 : x.f10.length ≤ c13) (g13 : Kd.bool.C w A13 x.f10.length x.f10) {A17 : Option Addr} {c17 : Nat} (l17 : x.f14.length ≤ c17) (g17 : (Kd.int .i64).C w A17 x.f14.length x.f14) : k32.K w x [.int .i64 x.f0.f0, .int .i64 x.f0.f1, .slice A2 x.f0.f2.length c2, .slice A3 x.f0.f3.length c3, .int .i64 x.f1, .int .i64 x.f2, .bool x.f3, .int .i64 x.f4, .int .i64 x.f5, .int .i64 x.f6, .bool x.f7, .bool x.f8, .bool x.f9, .slice A13 x.f10.length c13, .int .i64 x.f11, .int .i64 x.f12, .int .i64 x.f13, .slice A17 x.f14.length c17, .int .i64 x.f15, .int .i64 x.f16] := ⟨[.int .i64 x.f0.f0, .int .i64 x.f0.f1, .slice A2 x.f0.f2.length c2, .slice A3 x.f0.f3.length c3], [.int .i64 x.f1, .int .i64 x.f2, .bool x.f3, .int .i64 x.f4, .int .i64 x.f5, .int .i64 x.f6, .bool x.f7, .bool x.f8, .bool x.f9, .slice A13 x.f10.length c13, .int .i64 x.f11, .int .i64 x.f12, .int .i64 x.f13, .slice A17 x.f14.length c17, .int .i64 x.f15, .int .i64 x.f16], rfl, (k29_mk w x.f0 l2 g2 l3 g3), ⟨[.int .i64 x.f1], [.int .i64 x.f2, .bool x.f3, .int .i64 x.f4, .int .i64 x.f5, .int .i64 x.f6, .bool x.f7, .bool x.f8, .bool x.f9, .slice A13 x.f10.length c13, .int .i64 x.f11, .int .i64 x.f12, .int .i64 x.f13, .slice A17 x.f14.length c17, .int .i64 x.f15, .int .i64 x.f16], rfl, rfl, ⟨[.int .i64 x.f2], [.bool x.f3, .int .i64 x.f4, .int .i64 x.f5, .int .i64 x.f6, .bool x.f7, .bool x.f8, .bool x.f9, .slice A13 x.f10.length c13, .int .i64 x.f11, .int .i64 x.f12, .int .i64 x.f13, .slice A17 x.f14.length c17, .int .i64 x.f15, .int .i64 x.f16], rfl, rfl, ⟨[.bool x.f3], [.int .i64 x.f4, .int .i64 x.f5, .int .i64 x.f6, .bool x.f7, .bool x.f8, .bool x.f9, .slice A13 x.f10.length c13, .int .i64 x.f11, .int .i64 x.f12, .int .i64 x.f13, .slice A17 x.f14.length c17, .int .i64 x.f15, .int .i64 x.f16], rfl, rfl, ⟨[.int .i64 x.f4], [.int .i64 x.f5, .int .i64 x.f6, .bool x.f7, .bool x.f8, .bool x.f9, .slice A13 x.f10.length c13, .int .i64 x.f11, .int .i64 x.f12, .int .i64 x.f13, .slice A17 x.f14.length c17, .int .i64 x.f15, .int .i64 x.f16], rfl, rfl, ⟨[.int .i64 x.f5], [.int .i64 x.f6, .bool x.f7, .bool x.f8, .bool x.f9, .slice A13 x.f10.length c13, .int .i64 x.f11, .int .i64 x.f12, .int .i64 x.f13, .slice A17 x.f14.length c17, .int .i64 x.f15, .int .i64 x.f16], rfl, rfl, ⟨[.int .i64 x.f6], [.bool x.f7, .bool x.f8, .bool x.f9, .slice A13 x.f10.length c13, .int .i64 x.f11, .int .i64 x.f12, .int .i64 x.f13, .slice A17 x.f14.length c17, .int .i64 x.f15, .int .i64 x.f16], rfl, rfl, ⟨[.bool x.f7], [.bool x.f8, .bool x.f9, .slice A13 x.f10.length c13, .int .i64 x.f11, .int .i64 x.f12, .int .i64 x.f13, .slice A17 x.f14.length c17, .int .i64 x.f15, .int .i64 x.f16], rfl, rfl, ⟨[.bool x.f8], [.bool x.f9, .slice A13 x.f10.length c13, .int .i64 x.f11, .int .i64 x.f12, .int .i64 x.f13, .slice A17 x.f14.length c17, .int .i64 x.f15, .int .i64 x.f16], rfl, rfl, ⟨[.bool x.f9], [.slice A13 x.f10.length c13, .int .i64 x.f11, .int .i64 x.f12, .int .i64 x.f13, .slice A17 x.f14.length c17, .int .i64 x.f15, .int .i64 x.f16], rfl, rfl, ⟨[.slice A13 x.f10.length c13], [.int .i64 x.f11, .int .i64 x.f12, .int .i64 x.f13, .slice A17 x.f14.length c17, .int .i64 x.f15, .int .i64 x.f16], rfl, ⟨A13, c13, rfl, l13, g13⟩, ⟨[.int .i64 x.f11], [.int .i64 x.f12, .int .i64 x.f13, .slice A17 x.f14.length c17, .int .i64 x.f15, .int .i64 x.f16], rfl, rfl, ⟨[.int .i64 x.f12], [.int .i64 x.f13, .slice A17 x.f14.length c17, .int .i64 x.f15, .int .i64 x.f16], rfl, rfl, ⟨[.int .i64 x.f13], [.slice A17 x.f14.length c17, .int .i64 x.f15, .int .i64 x.f16], rfl, rfl, ⟨[.slice A17 x.f14.length c17], [.int .i64 x.f15, .int .i64 x.f16], rfl, ⟨A17, c17, rfl, l17, g17⟩, ⟨[.int .i64 x.f15], [.int .i64 x.f16], rfl, rfl, rfl⟩⟩⟩⟩⟩⟩⟩⟩⟩⟩⟩⟩⟩⟩⟩⟩
theorem k32_mkM (w : World) (base : Nat) (ok : Nat → Prop) (x : S32) {v2 : Value} (g2 : k77.R 77 w base ok v2 x.f0.f2) {v3 : Value} (g3 : k77.R 77 w base ok v3 x.f0.f3) {v13 : Value} (g13 : Kd.bool.R 4 w base ok v13 x.f10) {v17 : Value} (g17 : (Kd.int .i64).R 2 w base ok v17 x.f14) : k32.M w base ok x [.int .i64 x.f0.f0, .int .i64 x.f0.f1, v2, v3, .int .i64 x.f1, .int .i64 x.f2, .bool x.f3, .int .i64 x.f4, .int .i64 x.f5, .int .i64 x.f6, .bool x.f7, .bool x.f8, .bool x.f9, v13, .int .i64 x.f11, .int .i64 x.f12, .int .i64 x.f13, v17, .int .i64 x.f15, .int .i64 x.f16] := ⟨[.int .i64 x.f0.f0, .int .i64 x.f0.f1, v2, v3], [.int .i64 x.f1, .int .i64 x.f2, .bool x.f3, .int .i64 x.f4, .int .i64 x.f5, .int .i64 x.f6, .bool x.f7, .bool x.f8, .bool x.f9, v13, .int .i64 x.f11, .int .i64 x.f12, .int .i64 x.f13, v17, .int .i64 x.f15, .int .i64 x.f16], rfl, (k29_mkM w base ok x.f0 g2 g3), ⟨[.int .i64 x.f1], [.int .i64 x.f2, .bool x.f3, .int .i64 x.f4, .int .i64 x.f5, .int .i64 x.f6, .bool x.f7, .bool x.f8, .bool x.f9, v13, .int .i64 x.f11, .int .i64 x.f12, .int .i64 x.f13, v17, .int .i64 x.f15, .int .i64 x.f16], rfl, rfl, ⟨[.int .i64 x.f2], [.bool x.f3, .int .i64 x.f4, .int .i64 x.f5, .int .i64 x.f6, .bool x.f7, .bool x.f8, .bool x.f9, v13, .int .i64 x.f11, .int .i64 x.f12, .int .i64 x.f13, v17, .int .i64 x.f15, .int .i64 x.f16], rfl, rfl, ⟨[.bool x.f3], [.int .i64 x.f4, .int .i64 x.f5, .int .i64 x.f6, .bool x.f7, .bool x.f8, .bool x.f9, v13, .int .i64 x.f11, .int .i64 x.f12, .int .i64 x.f13, v17, .int .i64 x.f15, .int .i64 x.f16], rfl, rfl, ⟨[.int .i64 x.f4], [.int .i64 x.f5, .int .i64 x.f6, .bool x.f7, .bool x.f8, .bool x.f9, v13, .int .i64 x.f11, .int .i64 x.f12, .int .i64 x.f13, v17, .int .i64 x.f15, .int .i64 x.f16], rfl, rfl, ⟨[.int .i64 x.f5], [.int .i64 x.f6, .bool x.f7, .bool x.f8, .bool x.f9, v13, .int .i64 x.f11, .int .i64 x.f12, .int .i64 x.f13, v17, .int .i64 x.f15, .int .i64 x.f16], rfl, rfl, ⟨[.int .i64 x.f6], [.bool x.f7, .bool x.f8, .bool x.f9, v13, .int .i64 x.f11, .int .i64 x.f12, .int .i64 x.f13, v17, .int .i64 x.f15, .int .i64 x.f16], rfl, rfl, ⟨[.bool x.f7], [.bool x.f8, .bool x.f9, v13, .int .i64 x.f11, .int .i64 x.f12, .int .i64 x.f13, v17, .int .i64 x.f15, .int .i64 x.f16], rfl, rfl, ⟨[.bool x.f8], [.bool x.f9, v13, .int .i64 x.f11, .int .i64 x.f12, .int .i64 x.f13, v17, .int .i64 x.f15, .int .i64 x.f16], rfl, rfl, ⟨[.bool x.f9], [v13, .int .i64 x.f11, .int .i64 x.f12, .int .i64 x.f13, v17, .int .i64 x.f15, .int .i64 x.f16], rfl, rfl, ⟨[v13], [.int .i64 x.f11, .int .i64 x.f12, .int .i64 x.f13, v17, .int .i64 x.f15, .int .i64 x.f16], rfl, ⟨v13, rfl, g13⟩, ⟨[.int .i64 x.f11], [.int .i64 x.f12, .int .i64 x.f13, v17, .int .i64 x.f15, .int .i64 x.f16], rfl, rfl, ⟨[.int .i64 x.f12], [.int .i64 x.f13, v17, .int .i64 x.f15, .int .i64 x.f16], rfl, rfl, ⟨[.int .i64 x.f13], [v17, .int .i64 x.f15, .int .i64 x.f16], rfl, rfl, ⟨[v17], [.int .i64 x.f15, .int .i64 x.f16], rfl, ⟨v17, rfl, g17⟩, ⟨[.int .i64 x.f15], [.int .i64 x.f16], rfl, rfl, rfl⟩⟩⟩⟩⟩⟩⟩⟩⟩⟩⟩⟩⟩⟩⟩⟩
def rd_T32 (xs : List S32) (i : Int) : S32 := xs.getD i.toNat z32
theorem at_T32 {w : World} {A : Option Addr} {n : Nat} {xs : List S32} (h : Kd.C k32 w A n xs) (i : Int) (h0 : 0 ≤ i) (h1 : i < n) : ∃ ad A2 c2 A3 c3 A13 c13 A17 c17, A = some ad ∧ w.cell? (ad.add (i.toNat * 20)) = some (.int .i64 (rd_T32 xs i).f0.f0) ∧ w.cell? ⟨(ad.add (i.toNat * 20)).block, (ad.add (i.toNat * 20)).off + 1, none⟩ = some (.int .i64 (rd_T32 xs i).f0.f1) ∧ w.cell? ⟨(ad.add (i.toNat * 20)).block, (ad.add (i.toNat * 20)).off + 2, none⟩ = some (.slice A2 (rd_T32 xs i).f0.f2.length c2) ∧ w.cell? ⟨(ad.add (i.toNat * 20)).block, (ad.add (i.toNat * 20)).off + 3, none⟩ = some (.slice A3 (rd_T32 xs i).f0.f3.length c3) ∧ w.cell? ⟨(ad.add (i.toNat * 20)).block, (ad.add (i.toNat * 20)).off + 4, none⟩ = some (.int .i64 (rd_T32 xs i).f1) ∧ w.cell? ⟨(ad.add (i.toNat * 20)).block, (ad.add (i.toNat * 20)).off + 5, none⟩ = some (.int .i64 (rd_T32 xs i).f2) ∧ w.cell? ⟨(ad.add (i.toNat * 20)).block, (ad.add (i.toNat * 20)).off + 6, none⟩ = some (.bool (rd_T32 xs i).f3) ∧ w.cell? ⟨(ad.add (i.toNat * 20)).block, (ad.add (i.toNat * 20)).off + 7, none⟩ = some (.int .i64 (rd_T32 xs i).f4) ∧ w.cell? ⟨(ad.add (i.toNat * 20)).block, (ad.add (i.toNat * 20)).off + 8, none⟩ = some (.int .i64 (rd_T32 xs i).f5) ∧ w.cell? ⟨(ad.add (i.toNat * 20)).block, (ad.add (i.toNat * 20)).off + 9, none⟩ = some (.int .i64 (rd_T32 xs i).f6) ∧ w.cell? ⟨(ad.add (i.toNat * 20)).block, (ad.add (i.toNat * 20)).off + 10, none⟩ = some (.bool (rd_T32 xs i).f7) ∧ w.cell? ⟨(ad.add (i.toNat * 20)).block, (ad.add (i.toNat * 20)).off + 11, none⟩ = some (.bool (rd_T32 xs i).f8) ∧ w.cell? ⟨(ad.add (i.toNat * 20)).block, (ad.add (i.toNat * 20)).off + 12, none⟩ = some (.bool (rd_T32 xs i).f9) ∧ w.cell? ⟨(ad.add (i.toNat * 20)).block, (ad.add (i.toNat * 20)).off + 13, none⟩ = some (.slice A13 (rd_T32 xs i).f10.length c13) ∧ w.cell? ⟨(ad.add (i.toNat * 20)).block, (ad.add (i.toNat * 20)).off + 14, none⟩ = some (.int .i64 (rd_T32 xs i).f11) ∧ w.cell? ⟨(ad.add (i.toNat * 20)).block, (ad.add (i.toNat * 20)).off + 15, none⟩ = some (.int .i64 (rd_T32 xs i).f12) ∧ w.cell? ⟨(ad.add (i.toNat * 20)).block, (ad.add (i.toNat * 20)).off + 16, none⟩ = some (.int .i64 (rd_T32 xs i).f13) ∧ w.cell? ⟨(ad.add (i.toNat * 20)).block, (ad.add (i.toNat * 20)).off + 17, none⟩ = some (.slice A17 (rd_T32 xs i).f14.length c17) ∧ w.cell? ⟨(ad.add (i.toNat * 20)).block, (ad.add (i.toNat * 20)).off + 18, none⟩ = some (.int .i64 (rd_T32 xs i).f15) ∧ w.cell? ⟨(ad.add (i.toNat * 20)).block, (ad.add (i.toNat * 20)).off + 19, none⟩ = some (.int .i64 (rd_T32 xs i).f16) ∧ (rd_T32 xs i).f0.f2.length ≤ c2 ∧ k77.C w A2 (rd_T32 xs i).f0.f2.length (rd_T32 xs i).f0.f2 ∧ (rd_T32 xs i).f0.f3.length ≤ c3 ∧ k77.C w A3 (rd_T32 xs i).f0.f3.length (rd_T32 xs i).f0.f3 ∧ (rd_T32 xs i).f10.length ≤ c13 ∧ Kd.bool.C w A13 (rd_T32 xs i).f10.length (rd_T32 xs i).f10 ∧ (rd_T32 xs i).f14.length ≤ c17 ∧ (Kd.int .i64).C w A17 (rd_T32 xs i).f14.length (rd_T32 xs i).f14 := by
 obtain ⟨ad, c, e, _, hK, hc0⟩ := Kd.C_get h z32 i h0 h1
 have hc : ∀ j u, c[j]? = some u → w.cell? (ad.add (i.toNat * 20 + j)) = some u := hc0
 obtain ⟨A2, c2, A3, c3, A13, c13, A17, c17, rfl, l2, g2, l3, g3, l13, g13, l17, g17⟩ := k32_open hK
 exact ⟨ad, A2, c2, A3, c3, A13, c13, A17, c17, e, hc 0 _ rfl, by rw [← add_field _ _ 1 (by omega)]; exact hc 1 _ rfl, by rw [← add_field _ _ 2 (by omega)]; exact hc 2 _ rfl, by rw [← add_field _ _ 3 (by omega)]; exact hc 3 _ rfl, by rw [← add_field _ _ 4 (by omega)]; exact hc 4 _ rfl, by rw [← add_field _ _ 5 (by omega)]; exact hc 5 _ rfl, by rw [← add_field _ _ 6 (by omega)]; exact hc 6 _ rfl, by rw [← add_field _ _ 7 (by omega)]; exact hc 7 _ rfl, by rw [← add_field _ _ 8 (by omega)]; exact hc 8 _ rfl, by rw [← add_field _ _ 9 (by omega)]; exact hc 9 _ rfl, by rw [← add_field _ _ 10 (by omega)]; exact hc 10 _ rfl, by rw [← add_field _ _ 11 (by omega)]; exact hc 11 _ rfl, by rw [← add_field _ _ 12 (by omega)]; exact hc 12 _ rfl, by rw [← add_field _ _ 13 (by omega)]; exact hc 13 _ rfl, by rw [← add_field _ _ 14 (by omega)]; exact hc 14 _ rfl, by rw [← add_field _ _ 15 (by omega)]; exact hc 15 _ rfl, by rw [← add_field _ _ 16 (by omega)]; exact hc 16 _ rfl, by rw [← add_field _ _ 17 (by omega)]; exact hc 17 _ rfl, by rw [← add_field _ _ 18 (by omega)]; exact hc 18 _ rfl, by rw [← add_field _ _ 19 (by omega)]; exact hc 19 _ rfl, l2, g2, l3, g3, l13, g13, l17, g17⟩

/-! #### struct type 34 -/
structure S34 where
  f0 : S23
  f1 : S26
  f2 : S32
def z34 : S34 := ⟨z23, z26, z32⟩
def k34 : Kd S34 := Kd.iso (Kd.pair k23 (Kd.pair k26 k32)) (fun x : S34 => (x.f0, x.f1, x.f2))
theorem k34_open {w : World} {x : S34} {cs : List Value} (h : k34.K w x cs) : ∃ A6 c6 A9 c9 A10 c10 A20 c20 A24 c24, cs = [.int .i64 x.f0.f0, .int .i64 x.f0.f1, .int .i64 x.f0.f2, .int .i64 x.f1.f0, .int .i64 x.f1.f1, .bool x.f1.f2, .slice A6 x.f1.f3.length c6, .int .i64 x.f2.f0.f0, .int .i64 x.f2.f0.f1, .slice A9 x.f2.f0.f2.length c9, .slice A10 x.f2.f0.f3.length c10, .int .i64 x.f2.f1, .int .i64 x.f2.f2, .bool x.f2.f3, .int .i64 x.f2.f4, .int .i64 x.f2.f5, .int .i64 x.f2.f6, .bool x.f2.f7, .bool x.f2.f8, .bool x.f2.f9, .slice A20 x.f2.f10.length c20, .int .i64 x.f2.f11, .int .i64 x.f2.f12, .int .i64 x.f2.f13, .slice A24 x.f2.f14.length c24, .int .i64 x.f2.f15, .int .i64 x.f2.f16] ∧ x.f1.f3.length ≤ c6 ∧ (Kd.int .i64).C w A6 x.f1.f3.length x.f1.f3 ∧ x.f2.f0.f2.length ≤ c9 ∧ k77.C w A9 x.f2.f0.f2.length x.f2.f0.f2 ∧ x.f2.f0.f3.length ≤ c10 ∧ k77.C w A10 x.f2.f0.f3.length x.f2.f0.f3 ∧ x.f2.f10.length ≤ c20 ∧ Kd.bool.C w A20 x.f2.f10.length x.f2.f10 ∧ x.f2.f14.length ≤ c24 ∧ (Kd.int .i64).C w A24 x.f2.f14.length x.f2.f14 := by
 obtain ⟨_, _, rfl, s0, ⟨_, _, rfl, s3, s7⟩⟩ := h
 obtain rfl := k23_open s0
 obtain ⟨A6, c6, rfl, l6, g6⟩ := k26_open s3
 obtain ⟨A9, c9, A10, c10, A20, c20, A24, c24, rfl, l9, g9, l10, g10, l20, g20, l24, g24⟩ := k32_open s7
 exact ⟨A6, c6, A9, c9, A10, c10, A20, c20, A24, c24, rfl, l6, g6, l9, g9, l10, g10, l20, g20, l24, g24⟩
theorem k34_openM {w : World} {base : Nat} {ok : Nat → Prop} {x : S34} {cs : List Value} (h : k34.M w base ok x cs) : ∃ v6 v9 v10 v20 v24, cs = [.int .i64 x.f0.f0, .int .i64 x.f0.f1, .int .i64 x.f0.f2, .int .i64 x.f1.f0, .int .i64 x.f1.f1, .bool x.f1.f2, v6, .int .i64 x.f2.f0.f0, .int .i64 x.f2.f0.f1, v9, v10, .int .i64 x.f2.f1, .int .i64 x.f2.f2, .bool x.f2.f3, .int .i64 x.f2.f4, .int .i64 x.f2.f5, .int .i64 x.f2.f6, .bool x.f2.f7, .bool x.f2.f8, .bool x.f2.f9, v20, .int .i64 x.f2.f11, .int .i64 x.f2.f12, .int .i64 x.f2.f13, v24, .int .i64 x.f2.f15, .int .i64 x.f2.f16] ∧ (Kd.int .i64).R 2 w base ok v6 x.f1.f3 ∧ k77.R 77 w base ok v9 x.f2.f0.f2 ∧ k77.R 77 w base ok v10 x.f2.f0.f3 ∧ Kd.bool.R 4 w base ok v20 x.f2.f10 ∧ (Kd.int .i64).R 2 w base ok v24 x.f2.f14 := by
 obtain ⟨_, _, rfl, s0, ⟨_, _, rfl, s3, s7⟩⟩ := h
 obtain rfl := k23_openM s0
 obtain ⟨v6, rfl, g6⟩ := k26_openM s3
 obtain ⟨v9, v10, v20, v24, rfl, g9, g10, g20, g24⟩ := k32_openM s7
 exact ⟨v6, v9, v10, v20, v24, rfl, g6, g9, g10, g20, g24⟩
theorem k34_mk (w : World) (x : S34) {A6 : Option Addr} {c6 : Nat} (l6 : x.f1.f3.length ≤ c6) (g6 : (Kd.int .i64).C w A6 x.f1.f3.length x.f1.f3) {A9 : Option Addr} {c9 : Nat} (l9 : x.f2.f0.f2.length ≤ c9) (g9 : k77.C w A9 x.f2.f0.f2.length x.f2.f0.f2) {A10 : Option Addr} {c10 : Nat} (l10 : x.f2.f0.f3.length ≤ c10) (g10 : k77.C w A10 x.f2.f0.f3.length x.f2.f0.f3) {A20 : Option Addr} {c20 : Nat} (l20 : x.f2.f10.length ≤ c20) (g20 : Kd.bool.C w A20 x.f2.f10.length x.f2.f10) {A24 : Option Addr} {c24 : Nat} (l24 : x.f2.f14.length ≤ c24) (g24 : (Kd.int .i64).C w A24 x.f2.f14.length x.f2.f14) : k34.K w x [.int .i64 x.f0.f0, .int .i64 x.f0.f1, .int .i64 x.f0.f2, .int .i64 x.f1.f0, .int .i64 x.f1.f1, .bool x.f1.f2, .slice A6 x.f1.f3.length c6, .int .i64 x.f2.f0.f0, .int .i64 x.f2.f0.f1, .slice A9 x.f2.f0.f2.length c9, .slice A10 x.f2.f0.f3.length c10, .int .i64 x.f2.f1, .int .i64 x.f2.f2, .bool x.f2.f3, .int .i64 x.f2.f4, .int .i64 x.f2.f5, .int .i64 x.f2.f6, .bool x.f2.f7, .bool x.f2.f8, .bool x.f2.f9, .slice A20 x.f2.f10.length c20, .int .i64 x.f2.f11, .int .i64 x.f2.f12, .int .i64 x.f2.f13, .slice A24 x.f2.f14.length c24, .int .i64 x.f2.f15, .int .i64 x.f2.f16] := ⟨[.int .i64 x.f0.f0, .int .i64 x.f0.f1, .int .i64 x.f0.f2], [.int .i64 x.f1.f0, .int .i64 x.f1.f1, .bool x.f1.f2, .slice A6 x.f1.f3.length c6, .int .i64 x.f2.f0.f0, .int .i64 x.f2.f0.f1, .slice A9 x.f2.f0.f2.length c9, .slice A10 x.f2.f0.f3.length c10, .int .i64 x.f2.f1, .int .i64 x.f2.f2, .bool x.f2.f3, .int .i64 x.f2.f4, .int .i64 x.f2.f5, .int .i64 x.f2.f6, .bool x.f2.f7, .bool x.f2.f8, .bool x.f2.f9, .slice A20 x.f2.f10.length c20, .int .i64 x.f2.f11, .int .i64 x.f2.f12, .int .i64 x.f2.f13, .slice A24 x.f2.f14.length c24, .int .i64 x.f2.f15, .int .i64 x.f2.f16], rfl, (k23_mk w x.f0 ), ⟨[.int .i64 x.f1.f0, .int .i64 x.f1.f1, .bool x.f1.f2, .slice A6 x.f1.f3.length c6], [.int .i64 x.f2.f0.f0, .int .i64 x.f2.f0.f1, .slice A9 x.f2.f0.f2.length c9, .slice A10 x.f2.f0.f3.length c10, .int .i64 x.f2.f1, .int .i64 x.f2.f2, .bool x.f2.f3, .int .i64 x.f2.f4, .int .i64 x.f2.f5, .int .i64 x.f2.f6, .bool x.f2.f7, .bool x.f2.f8, .bool x.f2.f9, .slice A20 x.f2.f10.length c20, .int .i64 x.f2.f11, .int .i64 x.f2.f12, .int .i64 x.f2.f13, .slice A24 x.f2.f14.length c24, .int .i64 x.f2.f15, .int .i64 x.f2.f16], rfl, (k26_mk w x.f1 l6 g6), (k32_mk w x.f2 l9 g9 l10 g10 l20 g20 l24 g24)⟩⟩
theorem k34_mkM (w : World) (base : Nat) (ok : Nat → Prop) (x : S34) {v6 : Value} (g6 : (Kd.int .i64).R 2 w base ok v6 x.f1.f3) {v9 : Value} (g9 : k77.R 77 w base ok v9 x.f2.f0.f2) {v10 : Value} (g10 : k77.R 77 w base ok v10 x.f2.f0.f3) {v20 : Value} (g20 : Kd.bool.R 4 w base ok v20 x.f2.f10) {v24 : Value} (g24 : (Kd.int .i64).R 2 w base ok v24 x.f2.f14) : k34.M w base ok x [.int .i64 x.f0.f0, .int .i64 x.f0.f1, .int .i64 x.f0.f2, .int .i64 x.f1.f0, .int .i64 x.f1.f1, .bool x.f1.f2, v6, .int .i64 x.f2.f0.f0, .int .i64 x.f2.f0.f1, v9, v10, .int .i64 x.f2.f1, .int .i64 x.f2.f2, .bool x.f2.f3, .int .i64 x.f2.f4, .int .i64 x.f2.f5, .int .i64 x.f2.f6, .bool x.f2.f7, .bool x.f2.f8, .bool x.f2.f9, v20, .int .i64 x.f2.f11, .int .i64 x.f2.f12, .int .i64 x.f2.f13, v24, .int .i64 x.f2.f15, .int .i64 x.f2.f16] := ⟨[.int .i64 x.f0.f0, .int .i64 x.f0.f1, .int .i64 x.f0.f2], [.int .i64 x.f1.f0, .int .i64 x.f1.f1, .bool x.f1.f2, v6, .int .i64 x.f2.f0.f0, .int .i64 x.f2.f0.f1, v9, v10, .int .i64 x.f2.f1, .int .i64 x.f2.f2, .bool x.f2.f3, .int .i64 x.f2.f4, .int .i64 x.f2.f5, .int .i64 x.f2.f6, .bool x.f2.f7, .bool x.f2.f8, .bool x.f2.f9, v20, .int .i64 x.f2.f11, .int .i64 x.f2.f12, .int .i64 x.f2.f13, v24, .int .i64 x.f2.f15, .int .i64 x.f2.f16], rfl, (k23_mkM w base ok x.f0 ), ⟨[.int .i64 x.f1.f0, .int .i64 x.f1.f1, .bool x.f1.f2, v6], [.int .i64 x.f2.f0.f0, .int .i64 x.f2.f0.f1, v9, v10, .int .i64 x.f2.f1, .int .i64 x.f2.f2, .bool x.f2.f3, .int .i64 x.f2.f4, .int .i64 x.f2.f5, .int .i64 x.f2.f6, .bool x.f2.f7, .bool x.f2.f8, .bool x.f2.f9, v20, .int .i64 x.f2.f11, .int .i64 x.f2.f12, .int .i64 x.f2.f13, v24, .int .i64 x.f2.f15, .int .i64 x.f2.f16], rfl, (k26_mkM w base ok x.f1 g6), (k32_mkM w base ok x.f2 g9 g10 g20 g24)⟩⟩
def rd_T34 (xs : List S34) (i : Int) : S34 := xs.getD i.toNat z34
theorem at_T34 {w : World} {A : Option Addr} {n : Nat} {xs : List S34} (h : Kd.C k34 w A n xs) (i : Int) (h0 : 0 ≤ i) (h1 : i < n) : ∃ ad A6 c6 A9 c9 A10 c10 A20 c20 A24 c24, A = some ad ∧ w.cell? (ad.add (i.toNat * 27)) = some (.int .i64 (rd_T34 xs i).f0.f0) ∧ w.cell? ⟨(ad.add (i.toNat * 27)).block, (ad.add (i.toNat * 27)).off + 1, none⟩ = some (.int .i64 (rd_T34 xs i).f0.f1) ∧ w.cell? ⟨(ad.add (i.toNat * 27)).block, (ad.add (i.toNat * 27)).off + 2, none⟩ = some (.int .i64 (rd_T34 xs i).f0.f2) ∧ w.cell? ⟨(ad.add (i.toNat * 27)).block, (ad.add (i.toNat * 27)).off + 3, none⟩ = some (.int .i64 (rd_T34 xs i).f1.f0) ∧ w.cell? ⟨(ad.add (i.toNat * 27)).block, (ad.add (i.toNat * 27)).off + 4, none⟩ = some (.int .i64 (rd_T34 xs i).f1.f1) ∧ w.cell? ⟨(ad.add (i.toNat * 27)).block, (ad.add (i.toNat * 27)).off + 5, none⟩ = some (.bool (rd_T34 xs i).f1.f2) ∧ w.cell? ⟨(ad.add (i.toNat * 27)).block, (ad.add (i.toNat * 27)).off + 6, none⟩ = some (.slice A6 (rd_T34 xs i).f1.f3.length c6) ∧ w.cell? ⟨(ad.add (i.toNat * 27)).block, (ad.add (i.toNat * 27)).off + 7, none⟩ = some (.int .i64 (rd_T34 xs i).f2.f0.f0) ∧ w.cell? ⟨(ad.add (i.toNat * 27)).block, (ad.add (i.toNat * 27)).off + 8, none⟩ = some (.int .i64 (rd_T34 xs i).f2.f0.f1) ∧ w.cell? ⟨(ad.add (i.toNat * 27)).block, (ad.add (i.toNat * 27)).off + 9, none⟩ = some (.slice A9 (rd_T34 xs i).f2.f0.f2.length c9) ∧ w.cell? ⟨(ad.add (i.toNat * 27)).block, (ad.add (i.toNat * 27)).off + 10, none⟩ = some (.slice A10 (rd_T34 xs i).f2.f0.f3.length c10) ∧ w.cell? ⟨(ad.add (i.toNat * 27)).block, (ad.add (i.toNat * 27)).off + 11, none⟩ = some (.int .i64 (rd_T34 xs i).f2.f1) ∧ w.cell? ⟨(ad.add (i.toNat * 27)).block, (ad.add (i.toNat * 27)).off + 12, none⟩ = some (.int .i64 (rd_T34 xs i).f2.f2) ∧ w.cell? ⟨(ad.add (i.toNat * 27)).block, (ad.add (i.toNat * 27)).off + 13, none⟩ = some (.bool (rd_T34 xs i).f2.f3) ∧ w.cell? ⟨(ad.add (i.toNat * 27)).block, (ad.add (i.toNat * 27)).off + 14, none⟩ = some (.int .i64 (rd_T34 xs i).f2.f4) ∧ w.cell? ⟨(ad.add (i.toNat * 27)).block, (ad.add (i.toNat * 27)).off + 15, none⟩ = some (.int .i64 (rd_T34 xs i).f2.f5) ∧ w.cell? ⟨(ad.add (i.toNat * 27)).block, (ad.add (i.toNat * 27)).off + 16, none⟩ = some (.int .i64 (rd_T34 xs i).f2.f6) ∧ w.cell? ⟨(ad.add (i.toNat * 27)).block, (ad.add (i.toNat * 27)).off + 17, none⟩ = some (.bool (rd_T34 xs i).f2.f7) ∧ w.cell? ⟨(ad.add (i.toNat * 27)).block, (ad.add (i.toNat * 27)).off + 18, none⟩ = some (.bool (rd_T34 xs i).f2.f8) ∧ w.cell? ⟨(ad.add (i.toNat * 27)).block, (ad.add (i.toNat * 27)).off + 19, none⟩ = some (.bool (rd_T34 xs i).f2.f9) ∧ w.cell? ⟨(ad.add (i.toNat * 27)).block, (ad.add (i.toNat * 27)).off + 20, none⟩ = some (.slice A20 (rd_T34 xs i).f2.f10.length c20) ∧ w.cell? ⟨(ad.add (i.toNat * 27)).block, (ad.add (i.toNat * 27)).off + 21, none⟩ = some (.int .i64 (rd_T34 xs i).f2.f11) ∧ w.cell? ⟨(ad.add (i.toNat * 27)).block, (ad.add (i.toNat * 27)).off + 22, none⟩ = some (.int .i64 (rd_T34 xs i).f2.f12) ∧ w.cell? ⟨(ad.add (i.toNat * 27)).block, (ad.add (i.toNat * 27)).off + 23, none⟩ = some (.int .i64 (rd_T34 xs i).f2.f13) ∧ w.cell? ⟨(ad.add (i.toNat * 27)).block, (ad.add (i.toNat * 27)).off + 24, none⟩ = some (.slice A24 (rd_T34 xs i).f2.f14.length c24) ∧ w.cell? ⟨(ad.add (i.toNat * 27)).block, (ad.add (i.toNat * 27)).off + 25, none⟩ = some (.int .i64 (rd_T34 xs i).f2.f15) ∧ w.cell? ⟨(ad.add (i.toNat * 27)).block, (ad.add (i.toNat * 27)).off + 26, none⟩ = some (.int .i64 (rd_T34 xs i).f2.f16) ∧ (rd_T34 xs i).f1.f3.length ≤ c6 ∧ (Kd.int .i64).C w A6 (rd_T34 xs i).f1.f3.length (rd_T34 xs i).f1.f3 ∧ (rd_T34 xs i).f2.f0.f2.length ≤ c9 ∧ k77.C w A9 (rd_T34 xs i).f2.f0.f2.length (rd_T34 xs i).f2.f0.f2 ∧ (rd_T34 xs i).f2.f0.f3.length ≤ c10 ∧ k77.C w A10 (rd_T34 xs i).f2.f0.f3.length (rd_T34 xs i).f2.f0.f3 ∧ (rd_T34 xs i).f2.f10.length ≤ c20 ∧ Kd.bool.C w A20 (rd_T34 xs i).f2.f10.length (rd_T34 xs i).f2.f10 ∧ (rd_T34 xs i).f2.f14.length ≤ c24 ∧ (Kd.int .i64).C w A24 (rd_T34 xs i).f2.f14.length (rd_T34 xs i).f2.f14 := by
 obtain ⟨ad, c, e, _, hK, hc0⟩ := Kd.C_get h z34 i h0 h1
 have hc : ∀ j u, c[j]? = some u → w.cell? (ad.add (i.toNat * 27 + j)) = some u := hc0
 obtain ⟨A6, c6, A9, c9, A10, c10, A20, c20, A24, c24, rfl, l6, g6, l9, g9, l10, g10, l20, g20, l24, g24⟩ := k34_open hK
 exact ⟨ad, A6, c6, A9, c9, A10, c10, A20, c20, A24, c24, e, hc 0 _ rfl, by rw [← add_field _ _ 1 (by omega)]; exact hc 1 _ rfl, by rw [← add_field _ _ 2 (by omega)]; exact hc 2 _ rfl, by rw [← add_field _ _ 3 (by omega)]; exact hc 3 _ rfl, by rw [← add_field _ _ 4 (by omega)]; exact hc 4 _ rfl, by rw [← add_field _ _ 5 (by omega)]; exact hc 5 _ rfl, by rw [← add_field _ _ 6 (by omega)]; exact hc 6 _ rfl, by rw [← add_field _ _ 7 (by omega)]; exact hc 7 _ rfl, by rw [← add_field _ _ 8 (by omega)]; exact hc 8 _ rfl, by rw [← add_field _ _ 9 (by omega)]; exact hc 9 _ rfl, by rw [← add_field _ _ 10 (by omega)]; exact hc 10 _ rfl, by rw [← add_field _ _ 11 (by omega)]; exact hc 11 _ rfl, by rw [← add_field _ _ 12 (by omega)]; exact hc 12 _ rfl, by rw [← add_field _ _ 13 (by omega)]; exact hc 13 _ rfl, by rw [← add_field _ _ 14 (by omega)]; exact hc 14 _ rfl, by rw [← add_field _ _ 15 (by omega)]; exact hc 15 _ rfl, by rw [← add_field _ _ 16 (by omega)]; exact hc 16 _ rfl, by rw [← add_field _ _ 17 (by omega)]; exact hc 17 _ rfl, by rw [← add_field _ _ 18 (by omega)]; exact hc 18 _ rfl, by rw [← add_field _ _ 19 (by omega)]; exact hc 19 _ rfl, by rw [← add_field _ _ 20 (by omega)]; exact hc 20 _ rfl, by rw [← add_field _ _ 21 (by omega)]; exact hc 21 _ rfl, by rw [← add_field _ _ 22 (by omega)]; exact hc 22 _ rfl, by rw [← add_field _ _ 23 (by omega)]; exact hc 23 _ rfl, by rw [← add_field _ _ 24 (by omega)]; exact hc 24 _ rfl, by rw [← add_field _ _ 25 (by omega)]; exact hc 25 _ rfl, by rw [← add_field _ _ 26 (by omega)]; exact hc 26 _ rfl, l6, g6, l9, g9, l10, g10, l20, g20, l24, g24⟩

end Go.Proofs.Ytckgkblpbfckdaa.PFnExactSameVts
