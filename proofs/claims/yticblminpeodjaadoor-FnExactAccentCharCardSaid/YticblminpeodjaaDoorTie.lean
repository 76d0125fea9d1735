/-
  DERIVED. GIVEN WITH THE SEED: THE PROGRAM's TIES (one call each: nine closed facts by the kernel) AND EACH ROW's TIE, after the 31st guide's Derived/Test/Toyas{Tie, Card}.lean. No idea stands in it: it is a product of the set-up. Laid BY PROGRAM, IN A SANDBOX (cutbox-door.mjs). By AI agents, Wed Nov 11 2026. No macro, syntax, notation, axiom, sorry.
-/
import Derived.Test.YticblminpeodjaaDoorRows
import Derived.LaidByTextLater
import Derived.SevenTiedAt
import Derived.LaidSub
import Derived.LaidOnce
namespace Go.Proofs.YticblminpeodjaaDoor
open Go
set_option maxRecDepth 100000
theorem seatTie1 : Tryd.prog.laidByTextLater [("loop.example/g00523/impl.plainLetters", Rows.laid_loop_example_g00523_impl_plainLetters), ("loop.example/g00523/impl.accented", Rows.laid_loop_example_g00523_impl_accented), ("loop.example/g00523/impl.accents", Rows.laid_loop_example_g00523_impl_accents)] [.data, .data, .data] true :=
  Program.laidByTextLater_by_one 27 8 5 (by kernel_rfl) (by kernel_rfl) (by kernel_rfl) (by kernel_rfl) (by kernel_rfl) (by kernel_rfl) (fun _ _ => by kernel_rfl)
theorem noOwnUnsafe : Tryd.pinned.checked.prog.headLifts.contains "ownunsafe" = false := by kernel_rfl
theorem tie : Tryd.prog.laidByTextLater [("loop.example/g00523/impl.accents", Rows.laid_loop_example_g00523_impl_accents)] [.data] true :=
  Program.laidByTextLater.sub seatTie1 ["loop.example/g00523/impl.accents"] (by kernel_rfl) (by kernel_rfl)
theorem fnExactAccentChar_row_tie : Rows.fnExactAccentCharRow.laidByTextAt .later Tryd.pinned [.data] true :=
  OpenClaim.laidByTextAt_later rfl rfl tie noOwnUnsafe
theorem tie2 : Tryd.prog.laidByTextLater [("loop.example/g00523/impl.plainLetters", Rows.laid_loop_example_g00523_impl_plainLetters), ("loop.example/g00523/impl.accented", Rows.laid_loop_example_g00523_impl_accented)] [.data, .data] true :=
  Program.laidByTextLater.sub seatTie1 ["loop.example/g00523/impl.plainLetters", "loop.example/g00523/impl.accented"] (by kernel_rfl) (by kernel_rfl)
theorem fnExactComposeChar_row_tie : Rows.fnExactComposeCharRow.laidByTextAt .later Tryd.pinned [.data, .data] true :=
  OpenClaim.laidByTextAt_later rfl rfl tie2 noOwnUnsafe
theorem tie3 : Tryd.prog.laidByTextLater [("loop.example/g00523/impl.plainLetters", Rows.laid_loop_example_g00523_impl_plainLetters), ("loop.example/g00523/impl.accented", Rows.laid_loop_example_g00523_impl_accented), ("loop.example/g00523/impl.accents", Rows.laid_loop_example_g00523_impl_accents)] [.data, .data, .data] true :=
  Program.laidByTextLater.sub seatTie1 ["loop.example/g00523/impl.plainLetters", "loop.example/g00523/impl.accented", "loop.example/g00523/impl.accents"] (by kernel_rfl) (by kernel_rfl)
theorem fnAccents_row_tie : Rows.fnAccentsRow.laidByTextAt .later Tryd.pinned [.data, .data, .data] true :=
  OpenClaim.laidByTextAt_later rfl rfl tie3 noOwnUnsafe
theorem fnExactAccentCharUpto_row_tie : Rows.fnExactAccentCharUptoRow.laidByTextAt .later Tryd.pinned [.data] true :=
  OpenClaim.laidByTextAt_later rfl rfl tie noOwnUnsafe
theorem fnExactComposeCharUpto_row_tie : Rows.fnExactComposeCharUptoRow.laidByTextAt .later Tryd.pinned [.data, .data] true :=
  OpenClaim.laidByTextAt_later rfl rfl tie2 noOwnUnsafe
theorem fnAccentsUpto_row_tie : Rows.fnAccentsUptoRow.laidByTextAt .later Tryd.pinned [.data, .data, .data] true :=
  OpenClaim.laidByTextAt_later rfl rfl tie3 noOwnUnsafe
end Go.Proofs.YticblminpeodjaaDoor
