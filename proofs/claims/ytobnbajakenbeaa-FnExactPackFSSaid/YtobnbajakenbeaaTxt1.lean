/- FnExactPackFS: for every file system as argument the law hands back true, and the argument reads behind the call as it read before. No condition. -/
import Derived.Test.YtobnbajakenbeaaEng3
import Derived.Test.YtobnbajakenbeaaProg
import Derived.Test.YtobnbajakenbeaaShelf
import Derived.WalkKit
import Derived.WalkLawsBesides
import Derived.WalkSpells
set_option linter.all false
set_option linter.defProp false
/- What the tables of this program say of its types. -/
set_option linter.all false
namespace Go.Proofs.Ytobnbajakenbeaa
open Go Go.Eng
theorem tys0 : refT Go.Proofs.Try.prog 0 = false ∧
  szT Go.Proofs.Try.prog 3 = some 1 ∧
  isAggT Go.Proofs.Try.prog 3 = false ∧
  strT Go.Proofs.Try.prog 3 = false ∧
  bytesT Go.Proofs.Try.prog 3 = false ∧
  refT Go.Proofs.Try.prog 3 = false ∧
  (Go.Proofs.Try.prog.underlying 3).isSome = true ∧
  intT Go.Proofs.Try.prog 3 = some .i64 ∧
  kindT Go.Proofs.Try.prog 3 = 1 ∧
  (zeroT Go.Proofs.Try.prog 3).isSome = true ∧
  zcells Go.Proofs.Try.prog 3 = [.int .i64 0] ∧
  ((Go.Proofs.Try.prog.info? 3).map (·.bytes)).getD 1000 = 8 ∧
  szT Go.Proofs.Try.prog 4 = some 1 ∧
  isAggT Go.Proofs.Try.prog 4 = false ∧
  strT Go.Proofs.Try.prog 4 = false ∧
  bytesT Go.Proofs.Try.prog 4 = false ∧
  refT Go.Proofs.Try.prog 4 = false ∧
  (Go.Proofs.Try.prog.underlying 4).isSome = true ∧
  intT Go.Proofs.Try.prog 4 = none ∧
  kindT Go.Proofs.Try.prog 4 = 2 ∧
  (zeroT Go.Proofs.Try.prog 4).isSome = true ∧
  zcells Go.Proofs.Try.prog 4 = [.bool false] ∧
  ((Go.Proofs.Try.prog.info? 4).map (·.bytes)).getD 1000 = 1 ∧
  szT Go.Proofs.Try.prog 5 = some 1 ∧
  isAggT Go.Proofs.Try.prog 5 = false ∧
  strT Go.Proofs.Try.prog 5 = false ∧
  bytesT Go.Proofs.Try.prog 5 = false ∧
  refT Go.Proofs.Try.prog 5 = false ∧
  (Go.Proofs.Try.prog.underlying 5).isSome = true ∧
  intT Go.Proofs.Try.prog 5 = some .u8 ∧
  kindT Go.Proofs.Try.prog 5 = 1 ∧
  (zeroT Go.Proofs.Try.prog 5).isSome = true ∧
  zcells Go.Proofs.Try.prog 5 = [.int .u8 0] ∧
  ((Go.Proofs.Try.prog.info? 5).map (·.bytes)).getD 1000 = 1 ∧
  szT Go.Proofs.Try.prog 9 = some 1 ∧
  isAggT Go.Proofs.Try.prog 9 = false ∧
  strT Go.Proofs.Try.prog 9 = true ∧
  bytesT Go.Proofs.Try.prog 9 = false ∧
  refT Go.Proofs.Try.prog 9 = false ∧
  (Go.Proofs.Try.prog.underlying 9).isSome = true ∧
  intT Go.Proofs.Try.prog 9 = none ∧
  kindT Go.Proofs.Try.prog 9 = 3 ∧
  (zeroT Go.Proofs.Try.prog 9).isSome = true ∧
  zcells Go.Proofs.Try.prog 9 = [str []] ∧
  ((Go.Proofs.Try.prog.info? 9).map (·.bytes)).getD 1000 = 16 ∧
  refT Go.Proofs.Try.prog 20 = false ∧
  szT Go.Proofs.Try.prog 22 = some 1 ∧
  isAggT Go.Proofs.Try.prog 22 = false ∧
  strT Go.Proofs.Try.prog 22 = false ∧
  bytesT Go.Proofs.Try.prog 22 = false ∧
  refT Go.Proofs.Try.prog 22 = true ∧
  (Go.Proofs.Try.prog.underlying 22).isSome = true ∧
  slT Go.Proofs.Try.prog 22 = some (81, 2) ∧
  appE Go.Proofs.Try.prog 22 = 2 ∧
  appT Go.Proofs.Try.prog 22 = 81 ∧
  intT Go.Proofs.Try.prog 22 = none ∧
  kindT Go.Proofs.Try.prog 22 = 0 ∧
  (zeroT Go.Proofs.Try.prog 22).isSome = true ∧
  zcells Go.Proofs.Try.prog 22 = [.slice none 0 0] ∧
  ((Go.Proofs.Try.prog.info? 22).map (·.bytes)).getD 1000 = 24 :=
  ⟨by kernel_rfl, by kernel_rfl, by kernel_rfl, by kernel_rfl, by kernel_rfl, by kernel_rfl, by kernel_rfl, by kernel_rfl, by kernel_rfl, by kernel_rfl, by kernel_rfl, by kernel_rfl, by kernel_rfl, by kernel_rfl, by kernel_rfl, by kernel_rfl, by kernel_rfl, by kernel_rfl, by kernel_rfl, by kernel_rfl, by kernel_rfl, by kernel_rfl, by kernel_rfl, by kernel_rfl, by kernel_rfl, by kernel_rfl, by kernel_rfl, by kernel_rfl, by kernel_rfl, by kernel_rfl, by kernel_rfl, by kernel_rfl, by kernel_rfl, by kernel_rfl, by kernel_rfl, by kernel_rfl, by kernel_rfl, by kernel_rfl, by kernel_rfl, by kernel_rfl, by kernel_rfl, by kernel_rfl, by kernel_rfl, by kernel_rfl, by kernel_rfl, by kernel_rfl, by kernel_rfl, by kernel_rfl, by kernel_rfl, by kernel_rfl, by kernel_rfl, by kernel_rfl, by kernel_rfl, by kernel_rfl, by kernel_rfl, by kernel_rfl, by kernel_rfl, by kernel_rfl, by kernel_rfl, by kernel_rfl⟩
theorem tys1 : szT Go.Proofs.Try.prog 23 = some 1 ∧
  isAggT Go.Proofs.Try.prog 23 = false ∧
  strT Go.Proofs.Try.prog 23 = false ∧
  bytesT Go.Proofs.Try.prog 23 = false ∧
  refT Go.Proofs.Try.prog 23 = true ∧
  (Go.Proofs.Try.prog.underlying 23).isSome = true ∧
  slT Go.Proofs.Try.prog 23 = some (72, 10) ∧
  appE Go.Proofs.Try.prog 23 = 10 ∧
  appT Go.Proofs.Try.prog 23 = 72 ∧
  intT Go.Proofs.Try.prog 23 = none ∧
  kindT Go.Proofs.Try.prog 23 = 0 ∧
  (zeroT Go.Proofs.Try.prog 23).isSome = true ∧
  zcells Go.Proofs.Try.prog 23 = [.slice none 0 0] ∧
  ((Go.Proofs.Try.prog.info? 23).map (·.bytes)).getD 1000 = 24 ∧
  szT Go.Proofs.Try.prog 24 = some 1 ∧
  isAggT Go.Proofs.Try.prog 24 = false ∧
  strT Go.Proofs.Try.prog 24 = false ∧
  bytesT Go.Proofs.Try.prog 24 = false ∧
  refT Go.Proofs.Try.prog 24 = true ∧
  (Go.Proofs.Try.prog.underlying 24).isSome = true ∧
  slT Go.Proofs.Try.prog 24 = some (9, 1) ∧
  appE Go.Proofs.Try.prog 24 = 1 ∧
  appT Go.Proofs.Try.prog 24 = 9 ∧
  intT Go.Proofs.Try.prog 24 = none ∧
  kindT Go.Proofs.Try.prog 24 = 0 ∧
  (zeroT Go.Proofs.Try.prog 24).isSome = true ∧
  zcells Go.Proofs.Try.prog 24 = [.slice none 0 0] ∧
  ((Go.Proofs.Try.prog.info? 24).map (·.bytes)).getD 1000 = 24 ∧
  szT Go.Proofs.Try.prog 26 = some 4 ∧
  isAggT Go.Proofs.Try.prog 26 = true ∧
  strT Go.Proofs.Try.prog 26 = false ∧
  bytesT Go.Proofs.Try.prog 26 = false ∧
  refT Go.Proofs.Try.prog 26 = true ∧
  (Go.Proofs.Try.prog.underlying 26).isSome = true ∧
  fldT Go.Proofs.Try.prog 26 0 = some 0 ∧
  fldV Go.Proofs.Try.prog 26 0 = some (0, false, 1) ∧
  fldT Go.Proofs.Try.prog 26 1 = some 1 ∧
  fldV Go.Proofs.Try.prog 26 1 = some (1, false, 1) ∧
  fldT Go.Proofs.Try.prog 26 2 = some 2 ∧
  fldV Go.Proofs.Try.prog 26 2 = some (2, false, 1) ∧
  fldT Go.Proofs.Try.prog 26 3 = some 3 ∧
  fldV Go.Proofs.Try.prog 26 3 = some (3, false, 1) ∧
  plT Go.Proofs.Try.prog 26 = some [(0, 1), (1, 1), (2, 1), (3, 1)] ∧
  intT Go.Proofs.Try.prog 26 = none ∧
  kindT Go.Proofs.Try.prog 26 = 0 ∧
  (zeroT Go.Proofs.Try.prog 26).isSome = true ∧
  zcells Go.Proofs.Try.prog 26 = [.int .i64 0, .slice none 0 0, .slice none 0 0, .slice none 0 0] ∧
  ((Go.Proofs.Try.prog.info? 26).map (·.bytes)).getD 1000 = 80 ∧
  szT Go.Proofs.Try.prog 29 = some 1 ∧
  isAggT Go.Proofs.Try.prog 29 = false ∧
  strT Go.Proofs.Try.prog 29 = false ∧
  bytesT Go.Proofs.Try.prog 29 = false ∧
  refT Go.Proofs.Try.prog 29 = true ∧
  (Go.Proofs.Try.prog.underlying 29).isSome = true ∧
  slT Go.Proofs.Try.prog 29 = some (64, 2) ∧
  appE Go.Proofs.Try.prog 29 = 2 ∧
  appT Go.Proofs.Try.prog 29 = 64 ∧
  intT Go.Proofs.Try.prog 29 = none ∧
  kindT Go.Proofs.Try.prog 29 = 0 ∧
  (zeroT Go.Proofs.Try.prog 29).isSome = true :=
  ⟨by kernel_rfl, by kernel_rfl, by kernel_rfl, by kernel_rfl, by kernel_rfl, by kernel_rfl, by kernel_rfl, by kernel_rfl, by kernel_rfl, by kernel_rfl, by kernel_rfl, by kernel_rfl, by kernel_rfl, by kernel_rfl, by kernel_rfl, by kernel_rfl, by kernel_rfl, by kernel_rfl, by kernel_rfl, by kernel_rfl, by kernel_rfl, by kernel_rfl, by kernel_rfl, by kernel_rfl, by kernel_rfl, by kernel_rfl, by kernel_rfl, by kernel_rfl, by kernel_rfl, by kernel_rfl, by kernel_rfl, by kernel_rfl, by kernel_rfl, by kernel_rfl, by kernel_rfl, by kernel_rfl, by kernel_rfl, by kernel_rfl, by kernel_rfl, by kernel_rfl, by kernel_rfl, by kernel_rfl, by kernel_rfl, by kernel_rfl, by kernel_rfl, by kernel_rfl, by kernel_rfl, by kernel_rfl, by kernel_rfl, by kernel_rfl, by kernel_rfl, by kernel_rfl, by kernel_rfl, by kernel_rfl, by kernel_rfl, by kernel_rfl, by kernel_rfl, by kernel_rfl, by kernel_rfl, by kernel_rfl⟩
theorem tys2 : zcells Go.Proofs.Try.prog 29 = [.slice none 0 0] ∧
  ((Go.Proofs.Try.prog.info? 29).map (·.bytes)).getD 1000 = 24 ∧
  szT Go.Proofs.Try.prog 30 = some 1 ∧
  isAggT Go.Proofs.Try.prog 30 = false ∧
  strT Go.Proofs.Try.prog 30 = false ∧
  bytesT Go.Proofs.Try.prog 30 = false ∧
  refT Go.Proofs.Try.prog 30 = true ∧
  (Go.Proofs.Try.prog.underlying 30).isSome = true ∧
  slT Go.Proofs.Try.prog 30 = some (54, 10) ∧
  appE Go.Proofs.Try.prog 30 = 10 ∧
  appT Go.Proofs.Try.prog 30 = 54 ∧
  intT Go.Proofs.Try.prog 30 = none ∧
  kindT Go.Proofs.Try.prog 30 = 0 ∧
  (zeroT Go.Proofs.Try.prog 30).isSome = true ∧
  zcells Go.Proofs.Try.prog 30 = [.slice none 0 0] ∧
  ((Go.Proofs.Try.prog.info? 30).map (·.bytes)).getD 1000 = 24 ∧
  szT Go.Proofs.Try.prog 32 = some 4 ∧
  isAggT Go.Proofs.Try.prog 32 = true ∧
  strT Go.Proofs.Try.prog 32 = false ∧
  bytesT Go.Proofs.Try.prog 32 = false ∧
  refT Go.Proofs.Try.prog 32 = true ∧
  (Go.Proofs.Try.prog.underlying 32).isSome = true ∧
  fldT Go.Proofs.Try.prog 32 0 = some 0 ∧
  fldV Go.Proofs.Try.prog 32 0 = some (0, false, 1) ∧
  fldT Go.Proofs.Try.prog 32 1 = some 1 ∧
  fldV Go.Proofs.Try.prog 32 1 = some (1, false, 1) ∧
  fldT Go.Proofs.Try.prog 32 2 = some 2 ∧
  fldV Go.Proofs.Try.prog 32 2 = some (2, false, 1) ∧
  fldT Go.Proofs.Try.prog 32 3 = some 3 ∧
  fldV Go.Proofs.Try.prog 32 3 = some (3, false, 1) ∧
  plT Go.Proofs.Try.prog 32 = some [(0, 1), (1, 1), (2, 1), (3, 1)] ∧
  intT Go.Proofs.Try.prog 32 = none ∧
  kindT Go.Proofs.Try.prog 32 = 0 ∧
  (zeroT Go.Proofs.Try.prog 32).isSome = true ∧
  zcells Go.Proofs.Try.prog 32 = [.int .i64 0, .slice none 0 0, .slice none 0 0, .slice none 0 0] ∧
  ((Go.Proofs.Try.prog.info? 32).map (·.bytes)).getD 1000 = 80 ∧
  refT Go.Proofs.Try.prog 39 = false ∧
  szT Go.Proofs.Try.prog 51 = some 1 ∧
  isAggT Go.Proofs.Try.prog 51 = false ∧
  strT Go.Proofs.Try.prog 51 = false ∧
  bytesT Go.Proofs.Try.prog 51 = false ∧
  refT Go.Proofs.Try.prog 51 = true ∧
  (Go.Proofs.Try.prog.underlying 51).isSome = true ∧
  slT Go.Proofs.Try.prog 51 = some (3, 1) ∧
  appE Go.Proofs.Try.prog 51 = 1 ∧
  appT Go.Proofs.Try.prog 51 = 3 ∧
  intT Go.Proofs.Try.prog 51 = none ∧
  kindT Go.Proofs.Try.prog 51 = 0 ∧
  (zeroT Go.Proofs.Try.prog 51).isSome = true ∧
  zcells Go.Proofs.Try.prog 51 = [.slice none 0 0] ∧
  ((Go.Proofs.Try.prog.info? 51).map (·.bytes)).getD 1000 = 24 ∧
  szT Go.Proofs.Try.prog 52 = some 1 ∧
  isAggT Go.Proofs.Try.prog 52 = false ∧
  strT Go.Proofs.Try.prog 52 = false ∧
  bytesT Go.Proofs.Try.prog 52 = false ∧
  refT Go.Proofs.Try.prog 52 = true ∧
  (Go.Proofs.Try.prog.underlying 52).isSome = true ∧
  slT Go.Proofs.Try.prog 52 = some (111, 3) ∧
  appE Go.Proofs.Try.prog 52 = 3 ∧
  appT Go.Proofs.Try.prog 52 = 111 :=
  ⟨by kernel_rfl, by kernel_rfl, by kernel_rfl, by kernel_rfl, by kernel_rfl, by kernel_rfl, by kernel_rfl, by kernel_rfl, by kernel_rfl, by kernel_rfl, by kernel_rfl, by kernel_rfl, by kernel_rfl, by kernel_rfl, by kernel_rfl, by kernel_rfl, by kernel_rfl, by kernel_rfl, by kernel_rfl, by kernel_rfl, by kernel_rfl, by kernel_rfl, by kernel_rfl, by kernel_rfl, by kernel_rfl, by kernel_rfl, by kernel_rfl, by kernel_rfl, by kernel_rfl, by kernel_rfl, by kernel_rfl, by kernel_rfl, by kernel_rfl, by kernel_rfl, by kernel_rfl, by kernel_rfl, by kernel_rfl, by kernel_rfl, by kernel_rfl, by kernel_rfl, by kernel_rfl, by kernel_rfl, by kernel_rfl, by kernel_rfl, by kernel_rfl, by kernel_rfl, by kernel_rfl, by kernel_rfl, by kernel_rfl, by kernel_rfl, by kernel_rfl, by kernel_rfl, by kernel_rfl, by kernel_rfl, by kernel_rfl, by kernel_rfl, by kernel_rfl, by kernel_rfl, by kernel_rfl, by kernel_rfl⟩
theorem tys3 : intT Go.Proofs.Try.prog 52 = none ∧
  kindT Go.Proofs.Try.prog 52 = 0 ∧
  (zeroT Go.Proofs.Try.prog 52).isSome = true ∧
  zcells Go.Proofs.Try.prog 52 = [.slice none 0 0] ∧
  ((Go.Proofs.Try.prog.info? 52).map (·.bytes)).getD 1000 = 24 ∧
  szT Go.Proofs.Try.prog 54 = some 10 ∧
  isAggT Go.Proofs.Try.prog 54 = true ∧
  strT Go.Proofs.Try.prog 54 = false ∧
  bytesT Go.Proofs.Try.prog 54 = false ∧
  refT Go.Proofs.Try.prog 54 = true ∧
  (Go.Proofs.Try.prog.underlying 54).isSome = true ∧
  fldT Go.Proofs.Try.prog 54 0 = some 0 ∧
  fldV Go.Proofs.Try.prog 54 0 = some (0, false, 1) ∧
  fldT Go.Proofs.Try.prog 54 1 = some 1 ∧
  fldV Go.Proofs.Try.prog 54 1 = some (1, false, 1) ∧
  fldT Go.Proofs.Try.prog 54 2 = some 2 ∧
  fldV Go.Proofs.Try.prog 54 2 = some (2, false, 1) ∧
  fldT Go.Proofs.Try.prog 54 3 = some 3 ∧
  fldV Go.Proofs.Try.prog 54 3 = some (3, false, 1) ∧
  fldT Go.Proofs.Try.prog 54 4 = some 4 ∧
  fldV Go.Proofs.Try.prog 54 4 = some (4, false, 1) ∧
  fldT Go.Proofs.Try.prog 54 5 = some 5 ∧
  fldV Go.Proofs.Try.prog 54 5 = some (5, false, 1) ∧
  fldT Go.Proofs.Try.prog 54 6 = some 6 ∧
  fldV Go.Proofs.Try.prog 54 6 = some (6, false, 1) ∧
  fldT Go.Proofs.Try.prog 54 7 = some 7 ∧
  fldV Go.Proofs.Try.prog 54 7 = some (7, false, 1) ∧
  fldT Go.Proofs.Try.prog 54 8 = some 8 ∧
  fldV Go.Proofs.Try.prog 54 8 = some (8, false, 1) ∧
  fldT Go.Proofs.Try.prog 54 9 = some 9 ∧
  fldV Go.Proofs.Try.prog 54 9 = some (9, false, 1) ∧
  plT Go.Proofs.Try.prog 54 = some [(0, 1), (1, 1), (2, 1), (3, 1), (4, 1), (5, 1), (6, 1), (7, 1), (8, 1), (9, 1)] ∧
  intT Go.Proofs.Try.prog 54 = none ∧
  kindT Go.Proofs.Try.prog 54 = 0 ∧
  (zeroT Go.Proofs.Try.prog 54).isSome = true ∧
  zcells Go.Proofs.Try.prog 54 = [.int .i64 0, .int .i64 0, .int .i64 0, .int .i64 0, .int .i64 0, .int .i64 0, .int .i64 0, .slice none 0 0, .slice none 0 0, .slice none 0 0] ∧
  ((Go.Proofs.Try.prog.info? 54).map (·.bytes)).getD 1000 = 128 ∧
  refT Go.Proofs.Try.prog 61 = false ∧
  szT Go.Proofs.Try.prog 64 = some 2 ∧
  isAggT Go.Proofs.Try.prog 64 = true ∧
  strT Go.Proofs.Try.prog 64 = false ∧
  bytesT Go.Proofs.Try.prog 64 = false ∧
  refT Go.Proofs.Try.prog 64 = false ∧
  (Go.Proofs.Try.prog.underlying 64).isSome = true ∧
  fldT Go.Proofs.Try.prog 64 0 = some 0 ∧
  fldV Go.Proofs.Try.prog 64 0 = some (0, false, 1) ∧
  fldT Go.Proofs.Try.prog 64 1 = some 1 ∧
  fldV Go.Proofs.Try.prog 64 1 = some (1, false, 1) ∧
  plT Go.Proofs.Try.prog 64 = some [(0, 1), (1, 1)] ∧
  flatEqT Go.Proofs.Try.prog 64 = some [1, 1] ∧
  intT Go.Proofs.Try.prog 64 = none ∧
  kindT Go.Proofs.Try.prog 64 = 0 ∧
  (zeroT Go.Proofs.Try.prog 64).isSome = true ∧
  zcells Go.Proofs.Try.prog 64 = [.int .i64 0, .int .i64 0] ∧
  ((Go.Proofs.Try.prog.info? 64).map (·.bytes)).getD 1000 = 16 ∧
  refT Go.Proofs.Try.prog 65 = false ∧
  szT Go.Proofs.Try.prog 70 = some 1 ∧
  isAggT Go.Proofs.Try.prog 70 = false ∧
  strT Go.Proofs.Try.prog 70 = false ∧
  bytesT Go.Proofs.Try.prog 70 = false :=
  ⟨by kernel_rfl, by kernel_rfl, by kernel_rfl, by kernel_rfl, by kernel_rfl, by kernel_rfl, by kernel_rfl, by kernel_rfl, by kernel_rfl, by kernel_rfl, by kernel_rfl, by kernel_rfl, by kernel_rfl, by kernel_rfl, by kernel_rfl, by kernel_rfl, by kernel_rfl, by kernel_rfl, by kernel_rfl, by kernel_rfl, by kernel_rfl, by kernel_rfl, by kernel_rfl, by kernel_rfl, by kernel_rfl, by kernel_rfl, by kernel_rfl, by kernel_rfl, by kernel_rfl, by kernel_rfl, by kernel_rfl, by kernel_rfl, by kernel_rfl, by kernel_rfl, by kernel_rfl, by kernel_rfl, by kernel_rfl, by kernel_rfl, by kernel_rfl, by kernel_rfl, by kernel_rfl, by kernel_rfl, by kernel_rfl, by kernel_rfl, by kernel_rfl, by kernel_rfl, by kernel_rfl, by kernel_rfl, by kernel_rfl, by kernel_rfl, by kernel_rfl, by kernel_rfl, by kernel_rfl, by kernel_rfl, by kernel_rfl, by kernel_rfl, by kernel_rfl, by kernel_rfl, by kernel_rfl, by kernel_rfl⟩
theorem tys4 : refT Go.Proofs.Try.prog 70 = true ∧
  (Go.Proofs.Try.prog.underlying 70).isSome = true ∧
  slT Go.Proofs.Try.prog 70 = some (124, 3) ∧
  appE Go.Proofs.Try.prog 70 = 3 ∧
  appT Go.Proofs.Try.prog 70 = 124 ∧
  intT Go.Proofs.Try.prog 70 = none ∧
  kindT Go.Proofs.Try.prog 70 = 0 ∧
  (zeroT Go.Proofs.Try.prog 70).isSome = true ∧
  zcells Go.Proofs.Try.prog 70 = [.slice none 0 0] ∧
  ((Go.Proofs.Try.prog.info? 70).map (·.bytes)).getD 1000 = 24 ∧
  szT Go.Proofs.Try.prog 72 = some 10 ∧
  isAggT Go.Proofs.Try.prog 72 = true ∧
  strT Go.Proofs.Try.prog 72 = false ∧
  bytesT Go.Proofs.Try.prog 72 = false ∧
  refT Go.Proofs.Try.prog 72 = true ∧
  (Go.Proofs.Try.prog.underlying 72).isSome = true ∧
  fldT Go.Proofs.Try.prog 72 0 = some 0 ∧
  fldV Go.Proofs.Try.prog 72 0 = some (0, false, 1) ∧
  fldT Go.Proofs.Try.prog 72 1 = some 1 ∧
  fldV Go.Proofs.Try.prog 72 1 = some (1, false, 1) ∧
  fldT Go.Proofs.Try.prog 72 2 = some 2 ∧
  fldV Go.Proofs.Try.prog 72 2 = some (2, false, 1) ∧
  fldT Go.Proofs.Try.prog 72 3 = some 3 ∧
  fldV Go.Proofs.Try.prog 72 3 = some (3, false, 1) ∧
  fldT Go.Proofs.Try.prog 72 4 = some 4 ∧
  fldV Go.Proofs.Try.prog 72 4 = some (4, false, 1) ∧
  fldT Go.Proofs.Try.prog 72 5 = some 5 ∧
  fldV Go.Proofs.Try.prog 72 5 = some (5, false, 1) ∧
  fldT Go.Proofs.Try.prog 72 6 = some 6 ∧
  fldV Go.Proofs.Try.prog 72 6 = some (6, false, 1) ∧
  fldT Go.Proofs.Try.prog 72 7 = some 7 ∧
  fldV Go.Proofs.Try.prog 72 7 = some (7, false, 1) ∧
  fldT Go.Proofs.Try.prog 72 8 = some 8 ∧
  fldV Go.Proofs.Try.prog 72 8 = some (8, false, 1) ∧
  fldT Go.Proofs.Try.prog 72 9 = some 9 ∧
  fldV Go.Proofs.Try.prog 72 9 = some (9, false, 1) ∧
  plT Go.Proofs.Try.prog 72 = some [(0, 1), (1, 1), (2, 1), (3, 1), (4, 1), (5, 1), (6, 1), (7, 1), (8, 1), (9, 1)] ∧
  intT Go.Proofs.Try.prog 72 = none ∧
  kindT Go.Proofs.Try.prog 72 = 0 ∧
  (zeroT Go.Proofs.Try.prog 72).isSome = true ∧
  zcells Go.Proofs.Try.prog 72 = [.int .i64 0, .int .i64 0, .int .i64 0, .int .i64 0, .int .i64 0, .int .i64 0, .int .i64 0, .slice none 0 0, .slice none 0 0, .slice none 0 0] ∧
  ((Go.Proofs.Try.prog.info? 72).map (·.bytes)).getD 1000 = 128 ∧
  szT Go.Proofs.Try.prog 74 = some 1 ∧
  isAggT Go.Proofs.Try.prog 74 = false ∧
  strT Go.Proofs.Try.prog 74 = false ∧
  bytesT Go.Proofs.Try.prog 74 = false ∧
  refT Go.Proofs.Try.prog 74 = true ∧
  (Go.Proofs.Try.prog.underlying 74).isSome = true ∧
  slT Go.Proofs.Try.prog 74 = some (4, 1) ∧
  appE Go.Proofs.Try.prog 74 = 1 ∧
  appT Go.Proofs.Try.prog 74 = 4 ∧
  intT Go.Proofs.Try.prog 74 = none ∧
  kindT Go.Proofs.Try.prog 74 = 0 ∧
  (zeroT Go.Proofs.Try.prog 74).isSome = true ∧
  zcells Go.Proofs.Try.prog 74 = [.slice none 0 0] ∧
  ((Go.Proofs.Try.prog.info? 74).map (·.bytes)).getD 1000 = 24 ∧
  refT Go.Proofs.Try.prog 75 = false ∧
  szT Go.Proofs.Try.prog 81 = some 2 ∧
  isAggT Go.Proofs.Try.prog 81 = true ∧
  strT Go.Proofs.Try.prog 81 = false :=
  ⟨by kernel_rfl, by kernel_rfl, by kernel_rfl, by kernel_rfl, by kernel_rfl, by kernel_rfl, by kernel_rfl, by kernel_rfl, by kernel_rfl, by kernel_rfl, by kernel_rfl, by kernel_rfl, by kernel_rfl, by kernel_rfl, by kernel_rfl, by kernel_rfl, by kernel_rfl, by kernel_rfl, by kernel_rfl, by kernel_rfl, by kernel_rfl, by kernel_rfl, by kernel_rfl, by kernel_rfl, by kernel_rfl, by kernel_rfl, by kernel_rfl, by kernel_rfl, by kernel_rfl, by kernel_rfl, by kernel_rfl, by kernel_rfl, by kernel_rfl, by kernel_rfl, by kernel_rfl, by kernel_rfl, by kernel_rfl, by kernel_rfl, by kernel_rfl, by kernel_rfl, by kernel_rfl, by kernel_rfl, by kernel_rfl, by kernel_rfl, by kernel_rfl, by kernel_rfl, by kernel_rfl, by kernel_rfl, by kernel_rfl, by kernel_rfl, by kernel_rfl, by kernel_rfl, by kernel_rfl, by kernel_rfl, by kernel_rfl, by kernel_rfl, by kernel_rfl, by kernel_rfl, by kernel_rfl, by kernel_rfl⟩
theorem tys5 : bytesT Go.Proofs.Try.prog 81 = false ∧
  refT Go.Proofs.Try.prog 81 = false ∧
  (Go.Proofs.Try.prog.underlying 81).isSome = true ∧
  fldT Go.Proofs.Try.prog 81 0 = some 0 ∧
  fldV Go.Proofs.Try.prog 81 0 = some (0, false, 1) ∧
  fldT Go.Proofs.Try.prog 81 1 = some 1 ∧
  fldV Go.Proofs.Try.prog 81 1 = some (1, false, 1) ∧
  plT Go.Proofs.Try.prog 81 = some [(0, 1), (1, 1)] ∧
  flatEqT Go.Proofs.Try.prog 81 = some [1, 1] ∧
  intT Go.Proofs.Try.prog 81 = none ∧
  kindT Go.Proofs.Try.prog 81 = 0 ∧
  (zeroT Go.Proofs.Try.prog 81).isSome = true ∧
  zcells Go.Proofs.Try.prog 81 = [.int .i64 0, .int .i64 0] ∧
  ((Go.Proofs.Try.prog.info? 81).map (·.bytes)).getD 1000 = 16 ∧
  szT Go.Proofs.Try.prog 83 = some 56 ∧
  isAggT Go.Proofs.Try.prog 83 = true ∧
  strT Go.Proofs.Try.prog 83 = false ∧
  bytesT Go.Proofs.Try.prog 83 = false ∧
  (Go.Proofs.Try.prog.underlying 83).isSome = true ∧
  arT Go.Proofs.Try.prog 83 = some (56, 4, 1) ∧
  intT Go.Proofs.Try.prog 83 = none ∧
  kindT Go.Proofs.Try.prog 83 = 0 ∧
  (zeroT Go.Proofs.Try.prog 83).isSome = true ∧
  zcells Go.Proofs.Try.prog 83 = List.replicate 56 (.bool false) ∧
  ((Go.Proofs.Try.prog.info? 83).map (·.bytes)).getD 1000 = 56 ∧
  refT Go.Proofs.Try.prog 84 = false ∧
  refT Go.Proofs.Try.prog 85 = false ∧
  szT Go.Proofs.Try.prog 87 = some 1 ∧
  isAggT Go.Proofs.Try.prog 87 = false ∧
  strT Go.Proofs.Try.prog 87 = false ∧
  bytesT Go.Proofs.Try.prog 87 = false ∧
  refT Go.Proofs.Try.prog 87 = false ∧
  (Go.Proofs.Try.prog.underlying 87).isSome = true ∧
  intT Go.Proofs.Try.prog 87 = some .u64 ∧
  kindT Go.Proofs.Try.prog 87 = 1 ∧
  (zeroT Go.Proofs.Try.prog 87).isSome = true ∧
  zcells Go.Proofs.Try.prog 87 = [.int .u64 0] ∧
  ((Go.Proofs.Try.prog.info? 87).map (·.bytes)).getD 1000 = 8 ∧
  refT Go.Proofs.Try.prog 88 = false ∧
  szT Go.Proofs.Try.prog 90 = some 1 ∧
  isAggT Go.Proofs.Try.prog 90 = false ∧
  strT Go.Proofs.Try.prog 90 = false ∧
  bytesT Go.Proofs.Try.prog 90 = true ∧
  refT Go.Proofs.Try.prog 90 = true ∧
  (Go.Proofs.Try.prog.underlying 90).isSome = true ∧
  slT Go.Proofs.Try.prog 90 = some (5, 1) ∧
  appE Go.Proofs.Try.prog 90 = 1 ∧
  appT Go.Proofs.Try.prog 90 = 5 ∧
  intT Go.Proofs.Try.prog 90 = none ∧
  kindT Go.Proofs.Try.prog 90 = 0 ∧
  (zeroT Go.Proofs.Try.prog 90).isSome = true ∧
  zcells Go.Proofs.Try.prog 90 = [.slice none 0 0] ∧
  ((Go.Proofs.Try.prog.info? 90).map (·.bytes)).getD 1000 = 24 ∧
  refT Go.Proofs.Try.prog 96 = false ∧
  szT Go.Proofs.Try.prog 104 = some 1 ∧
  isAggT Go.Proofs.Try.prog 104 = false ∧
  strT Go.Proofs.Try.prog 104 = false ∧
  bytesT Go.Proofs.Try.prog 104 = false ∧
  refT Go.Proofs.Try.prog 104 = false ∧
  (Go.Proofs.Try.prog.underlying 104).isSome = true :=
  ⟨by kernel_rfl, by kernel_rfl, by kernel_rfl, by kernel_rfl, by kernel_rfl, by kernel_rfl, by kernel_rfl, by kernel_rfl, by kernel_rfl, by kernel_rfl, by kernel_rfl, by kernel_rfl, by kernel_rfl, by kernel_rfl, by kernel_rfl, by kernel_rfl, by kernel_rfl, by kernel_rfl, by kernel_rfl, by kernel_rfl, by kernel_rfl, by kernel_rfl, by kernel_rfl, by kernel_rfl, by kernel_rfl, by kernel_rfl, by kernel_rfl, by kernel_rfl, by kernel_rfl, by kernel_rfl, by kernel_rfl, by kernel_rfl, by kernel_rfl, by kernel_rfl, by kernel_rfl, by kernel_rfl, by kernel_rfl, by kernel_rfl, by kernel_rfl, by kernel_rfl, by kernel_rfl, by kernel_rfl, by kernel_rfl, by kernel_rfl, by kernel_rfl, by kernel_rfl, by kernel_rfl, by kernel_rfl, by kernel_rfl, by kernel_rfl, by kernel_rfl, by kernel_rfl, by kernel_rfl, by kernel_rfl, by kernel_rfl, by kernel_rfl, by kernel_rfl, by kernel_rfl, by kernel_rfl, by kernel_rfl⟩
theorem tys6 : intT Go.Proofs.Try.prog 104 = some .u32 ∧
  kindT Go.Proofs.Try.prog 104 = 1 ∧
  (zeroT Go.Proofs.Try.prog 104).isSome = true ∧
  zcells Go.Proofs.Try.prog 104 = [.int .u32 0] ∧
  ((Go.Proofs.Try.prog.info? 104).map (·.bytes)).getD 1000 = 4 ∧
  refT Go.Proofs.Try.prog 105 = false ∧
  szT Go.Proofs.Try.prog 107 = some 1 ∧
  isAggT Go.Proofs.Try.prog 107 = false ∧
  strT Go.Proofs.Try.prog 107 = false ∧
  bytesT Go.Proofs.Try.prog 107 = false ∧
  refT Go.Proofs.Try.prog 107 = false ∧
  (Go.Proofs.Try.prog.underlying 107).isSome = true ∧
  intT Go.Proofs.Try.prog 107 = some .u64 ∧
  kindT Go.Proofs.Try.prog 107 = 1 ∧
  (zeroT Go.Proofs.Try.prog 107).isSome = true ∧
  zcells Go.Proofs.Try.prog 107 = [.int .u64 0] ∧
  ((Go.Proofs.Try.prog.info? 107).map (·.bytes)).getD 1000 = 8 ∧
  refT Go.Proofs.Try.prog 108 = false ∧
  szT Go.Proofs.Try.prog 111 = some 3 ∧
  isAggT Go.Proofs.Try.prog 111 = true ∧
  strT Go.Proofs.Try.prog 111 = false ∧
  bytesT Go.Proofs.Try.prog 111 = false ∧
  refT Go.Proofs.Try.prog 111 = false ∧
  (Go.Proofs.Try.prog.underlying 111).isSome = true ∧
  fldT Go.Proofs.Try.prog 111 0 = some 0 ∧
  fldV Go.Proofs.Try.prog 111 0 = some (0, false, 1) ∧
  fldT Go.Proofs.Try.prog 111 1 = some 1 ∧
  fldV Go.Proofs.Try.prog 111 1 = some (1, false, 1) ∧
  fldT Go.Proofs.Try.prog 111 2 = some 2 ∧
  fldV Go.Proofs.Try.prog 111 2 = some (2, false, 1) ∧
  plT Go.Proofs.Try.prog 111 = some [(0, 1), (1, 1), (2, 1)] ∧
  flatEqT Go.Proofs.Try.prog 111 = some [1, 1, 1] ∧
  intT Go.Proofs.Try.prog 111 = none ∧
  kindT Go.Proofs.Try.prog 111 = 0 ∧
  (zeroT Go.Proofs.Try.prog 111).isSome = true ∧
  zcells Go.Proofs.Try.prog 111 = [.int .i64 0, .int .i64 0, .int .i64 0] ∧
  ((Go.Proofs.Try.prog.info? 111).map (·.bytes)).getD 1000 = 24 ∧
  szT Go.Proofs.Try.prog 114 = some 1 ∧
  isAggT Go.Proofs.Try.prog 114 = false ∧
  strT Go.Proofs.Try.prog 114 = false ∧
  bytesT Go.Proofs.Try.prog 114 = false ∧
  refT Go.Proofs.Try.prog 114 = false ∧
  (Go.Proofs.Try.prog.underlying 114).isSome = true ∧
  intT Go.Proofs.Try.prog 114 = none ∧
  kindT Go.Proofs.Try.prog 114 = 4 ∧
  (zeroT Go.Proofs.Try.prog 114).isSome = true ∧
  zcells Go.Proofs.Try.prog 114 = [.pointer none] ∧
  ((Go.Proofs.Try.prog.info? 114).map (·.bytes)).getD 1000 = 8 ∧
  szT Go.Proofs.Try.prog 116 = some 2 ∧
  isAggT Go.Proofs.Try.prog 116 = true ∧
  strT Go.Proofs.Try.prog 116 = false ∧
  bytesT Go.Proofs.Try.prog 116 = false ∧
  (Go.Proofs.Try.prog.underlying 116).isSome = true ∧
  fldT Go.Proofs.Try.prog 116 0 = some 0 ∧
  fldV Go.Proofs.Try.prog 116 0 = some (0, false, 1) ∧
  fldT Go.Proofs.Try.prog 116 1 = some 1 ∧
  fldV Go.Proofs.Try.prog 116 1 = some (1, false, 1) ∧
  plT Go.Proofs.Try.prog 116 = some [(0, 1), (1, 1)] ∧
  intT Go.Proofs.Try.prog 116 = none ∧
  kindT Go.Proofs.Try.prog 116 = 0 :=
  ⟨by kernel_rfl, by kernel_rfl, by kernel_rfl, by kernel_rfl, by kernel_rfl, by kernel_rfl, by kernel_rfl, by kernel_rfl, by kernel_rfl, by kernel_rfl, by kernel_rfl, by kernel_rfl, by kernel_rfl, by kernel_rfl, by kernel_rfl, by kernel_rfl, by kernel_rfl, by kernel_rfl, by kernel_rfl, by kernel_rfl, by kernel_rfl, by kernel_rfl, by kernel_rfl, by kernel_rfl, by kernel_rfl, by kernel_rfl, by kernel_rfl, by kernel_rfl, by kernel_rfl, by kernel_rfl, by kernel_rfl, by kernel_rfl, by kernel_rfl, by kernel_rfl, by kernel_rfl, by kernel_rfl, by kernel_rfl, by kernel_rfl, by kernel_rfl, by kernel_rfl, by kernel_rfl, by kernel_rfl, by kernel_rfl, by kernel_rfl, by kernel_rfl, by kernel_rfl, by kernel_rfl, by kernel_rfl, by kernel_rfl, by kernel_rfl, by kernel_rfl, by kernel_rfl, by kernel_rfl, by kernel_rfl, by kernel_rfl, by kernel_rfl, by kernel_rfl, by kernel_rfl, by kernel_rfl, by kernel_rfl⟩
theorem tys7 : (zeroT Go.Proofs.Try.prog 116).isSome = true ∧
  zcells Go.Proofs.Try.prog 116 = [.pointer none, .slice none 0 0] ∧
  ((Go.Proofs.Try.prog.info? 116).map (·.bytes)).getD 1000 = 32 ∧
  refT Go.Proofs.Try.prog 119 = false ∧
  refT Go.Proofs.Try.prog 120 = false ∧
  szT Go.Proofs.Try.prog 124 = some 3 ∧
  isAggT Go.Proofs.Try.prog 124 = true ∧
  strT Go.Proofs.Try.prog 124 = false ∧
  bytesT Go.Proofs.Try.prog 124 = false ∧
  refT Go.Proofs.Try.prog 124 = false ∧
  (Go.Proofs.Try.prog.underlying 124).isSome = true ∧
  fldT Go.Proofs.Try.prog 124 0 = some 0 ∧
  fldV Go.Proofs.Try.prog 124 0 = some (0, false, 1) ∧
  fldT Go.Proofs.Try.prog 124 1 = some 1 ∧
  fldV Go.Proofs.Try.prog 124 1 = some (1, false, 1) ∧
  fldT Go.Proofs.Try.prog 124 2 = some 2 ∧
  fldV Go.Proofs.Try.prog 124 2 = some (2, false, 1) ∧
  plT Go.Proofs.Try.prog 124 = some [(0, 1), (1, 1), (2, 1)] ∧
  flatEqT Go.Proofs.Try.prog 124 = some [1, 1, 1] ∧
  intT Go.Proofs.Try.prog 124 = none ∧
  kindT Go.Proofs.Try.prog 124 = 0 ∧
  (zeroT Go.Proofs.Try.prog 124).isSome = true ∧
  zcells Go.Proofs.Try.prog 124 = [.int .i64 0, .int .i64 0, .int .i64 0] ∧
  ((Go.Proofs.Try.prog.info? 124).map (·.bytes)).getD 1000 = 24 ∧
  szT Go.Proofs.Try.prog 130 = some 1 ∧
  isAggT Go.Proofs.Try.prog 130 = false ∧
  strT Go.Proofs.Try.prog 130 = false ∧
  bytesT Go.Proofs.Try.prog 130 = false ∧
  refT Go.Proofs.Try.prog 130 = false ∧
  (Go.Proofs.Try.prog.underlying 130).isSome = true ∧
  intT Go.Proofs.Try.prog 130 = none ∧
  kindT Go.Proofs.Try.prog 130 = 4 ∧
  (zeroT Go.Proofs.Try.prog 130).isSome = true ∧
  zcells Go.Proofs.Try.prog 130 = [.pointer none] ∧
  ((Go.Proofs.Try.prog.info? 130).map (·.bytes)).getD 1000 = 8 ∧
  szT Go.Proofs.Try.prog 131 = some 1 ∧
  isAggT Go.Proofs.Try.prog 131 = false ∧
  strT Go.Proofs.Try.prog 131 = false ∧
  bytesT Go.Proofs.Try.prog 131 = false ∧
  refT Go.Proofs.Try.prog 131 = false ∧
  (Go.Proofs.Try.prog.underlying 131).isSome = true ∧
  intT Go.Proofs.Try.prog 131 = none ∧
  kindT Go.Proofs.Try.prog 131 = 0 ∧
  (zeroT Go.Proofs.Try.prog 131).isSome = true ∧
  zcells Go.Proofs.Try.prog 131 = [.pointer none] ∧
  ((Go.Proofs.Try.prog.info? 131).map (·.bytes)).getD 1000 = 8 :=
  ⟨by kernel_rfl, by kernel_rfl, by kernel_rfl, by kernel_rfl, by kernel_rfl, by kernel_rfl, by kernel_rfl, by kernel_rfl, by kernel_rfl, by kernel_rfl, by kernel_rfl, by kernel_rfl, by kernel_rfl, by kernel_rfl, by kernel_rfl, by kernel_rfl, by kernel_rfl, by kernel_rfl, by kernel_rfl, by kernel_rfl, by kernel_rfl, by kernel_rfl, by kernel_rfl, by kernel_rfl, by kernel_rfl, by kernel_rfl, by kernel_rfl, by kernel_rfl, by kernel_rfl, by kernel_rfl, by kernel_rfl, by kernel_rfl, by kernel_rfl, by kernel_rfl, by kernel_rfl, by kernel_rfl, by kernel_rfl, by kernel_rfl, by kernel_rfl, by kernel_rfl, by kernel_rfl, by kernel_rfl, by kernel_rfl, by kernel_rfl, by kernel_rfl, by kernel_rfl⟩
def tys := And.intro (And.intro (And.intro tys0 tys1) (And.intro tys2 tys3)) (And.intro (And.intro tys4 tys5) (And.intro tys6 tys7))
end Go.Proofs.Ytobnbajakenbeaa

/- Contracts: the small tests. -/
set_option linter.all false
set_option maxRecDepth 10000
namespace Go.Proofs.Ytobnbajakenbeaa
open Go Go.Eng
theorem mixed : Go.Proofs.Try.prog.follows .mixedOrders = true := by kernel_rfl


theorem c_isUser (u : Int) : Gives Go.Proofs.Try.prog 88 [I u] (.bool (decide (0 ≤ u) && decide (u < 4))) := by
  refine gives_of_V mixed Go.Proofs.Try.call88 Go.Proofs.Try.func88 rfl (by rw [Go.Proofs.Try.ntmps88]; simp) ?_
  simp (maxSteps := 2000000) (contextual := true) only [↓ctl, evl, val, valP, own, tys, Try.ntmps88, Try.results88, ↓V_convert, ↓V_bytes, stdl, cond_true, cond_false, Nat.reduceEqDiff, Nat.reduceAdd, Nat.reduceMul, Nat.reduceSub, Nat.reduceLT, Int.reduceEq, Int.reduceLT, Int.reduceLE, Int.reduceNeg, Nat.reduceLeDiff, if_true, if_false, ↓reduceIte, forall_const, implies_true, reduceCtorEq, forall_eq_or_imp, forall_eq, ne_eq]
theorem c_BlocksNeeded (u : Int) (hu : In64 u) : Gives Go.Proofs.Try.prog 69 [I u] (.int .i64 (if u ≤ 0 then 0 else (u - 1) / 32 + 1)) := by
  refine gives_of_V mixed Go.Proofs.Try.call69 Go.Proofs.Try.func69 rfl (by rw [Go.Proofs.Try.ntmps69]; simp) ?_
  simp (maxSteps := 2000000) (contextual := true) only [↓ctl, evl, val, valP, own, tys, Try.ntmps69, Try.results69, ↓V_convert, ↓V_bytes, stdl, cond_true, cond_false, Nat.reduceEqDiff, Nat.reduceAdd, Nat.reduceMul, Nat.reduceSub, Nat.reduceLT, Int.reduceEq, Int.reduceLT, Int.reduceLE, Int.reduceNeg, Nat.reduceLeDiff, if_true, if_false, ↓reduceIte, forall_const, implies_true, reduceCtorEq, forall_eq_or_imp, forall_eq, ne_eq]
  intro h
  simp (disch := omega) only [wrap_id, quoV_pos]
end Go.Proofs.Ytobnbajakenbeaa


/- Contracts: zeroes, membership. -/
set_option linter.all false
set_option maxRecDepth 10000
namespace Go.Proofs.Ytobnbajakenbeaa
open Go Go.Eng

def zeroes (s : List UInt8) : Bool := s.all (·.toNat == 0)
theorem c_IsZeroes (s : List UInt8) (hs : s.length ≤ 1099511627776) : Gives Go.Proofs.Try.prog 57 [Sx s] (.bool (zeroes s)) := by
  refine gives_of_V mixed Go.Proofs.Try.call57 Go.Proofs.Try.func57 rfl (by rw [Go.Proofs.Try.ntmps57]; simp) ?_
  simp (maxSteps := 2000000) (contextual := true) only [↓ctl, evl, val, valP, own, tys, Try.ntmps57, Try.results57, ↓V_convert, ↓V_bytes, stdl, cond_true, cond_false, Nat.reduceEqDiff, Nat.reduceAdd, Nat.reduceMul, Nat.reduceSub, Nat.reduceLT, Int.reduceEq, Int.reduceLT, Int.reduceLE, Int.reduceNeg, Nat.reduceLeDiff, if_true, if_false, ↓reduceIte, forall_const, implies_true, reduceCtorEq, forall_eq_or_imp, forall_eq, ne_eq]
  refine V_loopI mixed (ι := {i : Nat // i ≤ s.length ∧ zeroes s = (s.drop i).all (·.toNat == 0)}) (fun i => ⟨[(0, true, Sx s), (5, true, I s.length), (6, true, I i.1)], [], 0, 14⟩) (fun i => s.length - i.1) ⟨0, by simp [zeroes]⟩ ?_ ?_ ?_
  · refine weakI ?_
    simp (maxSteps := 2000000) (contextual := true) only [↓ctl, evl, val, valP, own, tys, Try.ntmps57, Try.results57, ↓V_convert, ↓V_bytes, stdl, cond_true, cond_false, Nat.reduceEqDiff, Nat.reduceAdd, Nat.reduceMul, Nat.reduceSub, Nat.reduceLT, Int.reduceEq, Int.reduceLT, Int.reduceLE, Int.reduceNeg, Nat.reduceLeDiff, if_true, if_false, ↓reduceIte, forall_const, implies_true, reduceCtorEq, forall_eq_or_imp, forall_eq, ne_eq]
    rfl
  · trivial
  · rintro ⟨i, hi, ha⟩
    simp (maxSteps := 2000000) (contextual := true) only [↓ctl, evl, val, valP, own, tys, Try.ntmps57, Try.results57, ↓V_convert, ↓V_bytes, stdl, cond_true, cond_false, Nat.reduceEqDiff, Nat.reduceAdd, Nat.reduceMul, Nat.reduceSub, Nat.reduceLT, Int.reduceEq, Int.reduceLT, Int.reduceLE, Int.reduceNeg, Nat.reduceLeDiff, if_true, if_false, ↓reduceIte, forall_const, implies_true, reduceCtorEq, forall_eq_or_imp, forall_eq, ne_eq]
    refine ⟨fun hlt => ⟨fun h0 => ?_, fun h0 => V_backI ⟨i + 1, by omega, ?_⟩ (by show _ - (i + 1) < _; omega) (weakI ?_)⟩, fun hlt => ?_⟩
    · rw [ha, all_drop 0 hlt]; grind
    · rw [ha, all_drop 0 hlt]; grind
    · simp (maxSteps := 2000000) (contextual := true) only [↓ctl, evl, val, valP, own, tys, Try.ntmps57, Try.results57, ↓V_convert, ↓V_bytes, stdl, cond_true, cond_false, Nat.reduceEqDiff, Nat.reduceAdd, Nat.reduceMul, Nat.reduceSub, Nat.reduceLT, Int.reduceEq, Int.reduceLT, Int.reduceLE, Int.reduceNeg, Nat.reduceLeDiff, if_true, if_false, ↓reduceIte, forall_const, implies_true, reduceCtorEq, forall_eq_or_imp, forall_eq, ne_eq]
      rw [wrap_id (by omega) (by omega)]
      rfl
    · rw [ha, drop_end _ _ hlt]; rfl
theorem d_IsZeroes (s : List UInt8) (hs : s.length ≤ 1099511627776) : Gives Go.Proofs.Try.prog 48 [Sx s] (.bool (zeroes s)) := by
  refine gives_of_V mixed Go.Proofs.Try.call48 Go.Proofs.Try.func48 rfl (by rw [Go.Proofs.Try.ntmps48]; simp) ?_
  simp (maxSteps := 2000000) (contextual := true) only [↓ctl, evl, val, valP, own, tys, Try.ntmps48, Try.results48, ↓V_convert, ↓V_bytes, stdl, cond_true, cond_false, Nat.reduceEqDiff, Nat.reduceAdd, Nat.reduceMul, Nat.reduceSub, Nat.reduceLT, Int.reduceEq, Int.reduceLT, Int.reduceLE, Int.reduceNeg, Nat.reduceLeDiff, if_true, if_false, ↓reduceIte, forall_const, implies_true, reduceCtorEq, forall_eq_or_imp, forall_eq, ne_eq]
  refine V_loopI mixed (ι := {i : Nat // i ≤ s.length ∧ zeroes s = (s.drop i).all (·.toNat == 0)}) (fun i => ⟨[(0, true, Sx s), (3, true, I i.1)], [], 0, 14⟩) (fun i => s.length - i.1) ⟨0, by simp [zeroes]⟩ ?_ ?_ ?_
  · refine weakI ?_
    simp (maxSteps := 2000000) (contextual := true) only [↓ctl, evl, val, valP, own, tys, Try.ntmps48, Try.results48, ↓V_convert, ↓V_bytes, stdl, cond_true, cond_false, Nat.reduceEqDiff, Nat.reduceAdd, Nat.reduceMul, Nat.reduceSub, Nat.reduceLT, Int.reduceEq, Int.reduceLT, Int.reduceLE, Int.reduceNeg, Nat.reduceLeDiff, if_true, if_false, ↓reduceIte, forall_const, implies_true, reduceCtorEq, forall_eq_or_imp, forall_eq, ne_eq]
    rfl
  · trivial
  · rintro ⟨i, hi, ha⟩
    simp (maxSteps := 2000000) (contextual := true) only [↓ctl, evl, val, valP, own, tys, Try.ntmps48, Try.results48, ↓V_convert, ↓V_bytes, stdl, cond_true, cond_false, Nat.reduceEqDiff, Nat.reduceAdd, Nat.reduceMul, Nat.reduceSub, Nat.reduceLT, Int.reduceEq, Int.reduceLT, Int.reduceLE, Int.reduceNeg, Nat.reduceLeDiff, if_true, if_false, ↓reduceIte, forall_const, implies_true, reduceCtorEq, forall_eq_or_imp, forall_eq, ne_eq]
    refine ⟨fun hlt => ⟨fun h0 => ?_, fun h0 => V_backI ⟨i + 1, by omega, ?_⟩ (by show _ - (i + 1) < _; omega) (weakI ?_)⟩, fun hlt => ?_⟩
    · rw [ha, all_drop 0 hlt]; grind
    · rw [ha, all_drop 0 hlt]; grind
    · simp (maxSteps := 2000000) (contextual := true) only [↓ctl, evl, val, valP, own, tys, Try.ntmps48, Try.results48, ↓V_convert, ↓V_bytes, stdl, cond_true, cond_false, Nat.reduceEqDiff, Nat.reduceAdd, Nat.reduceMul, Nat.reduceSub, Nat.reduceLT, Int.reduceEq, Int.reduceLT, Int.reduceLE, Int.reduceNeg, Nat.reduceLeDiff, if_true, if_false, ↓reduceIte, forall_const, implies_true, reduceCtorEq, forall_eq_or_imp, forall_eq, ne_eq]
      rw [wrap_id (by omega) (by omega)]
      rfl
    · rw [ha, drop_end _ _ hlt]; rfl
theorem d_l02Has (l : List Int) (n : Int) (hs : l.length ≤ 1099511627776) : Gives Go.Proofs.Try.prog 79 [.rd 1 (l.map intRow), I n] (.bool (l.any (· == n))) := by
  refine gives_of_V mixed Go.Proofs.Try.call79 Go.Proofs.Try.func79 rfl (by rw [Go.Proofs.Try.ntmps79]; simp) ?_
  simp (maxSteps := 2000000) (contextual := true) only [↓ctl, evl, val, valP, own, tys, Try.ntmps79, Try.results79, ↓V_convert, ↓V_bytes, stdl, cond_true, cond_false, Nat.reduceEqDiff, Nat.reduceAdd, Nat.reduceMul, Nat.reduceSub, Nat.reduceLT, Int.reduceEq, Int.reduceLT, Int.reduceLE, Int.reduceNeg, Nat.reduceLeDiff, if_true, if_false, ↓reduceIte, forall_const, implies_true, reduceCtorEq, forall_eq_or_imp, forall_eq, ne_eq]
  refine V_loopI mixed (ι := {i : Nat // i ≤ l.length ∧ (l.any (· == n)) = (l.drop i).any (· == n)}) (fun i => ⟨[(1, true, I n), (7, true, .rd 1 (l.map intRow)), (8, true, I l.length), (9, true, I i.1)], [], 0, 17⟩) (fun i => l.length - i.1) ⟨0, by simp⟩ ?_ ?_ ?_
  · refine weakI ?_
    simp (maxSteps := 2000000) (contextual := true) only [↓ctl, evl, val, valP, own, tys, Try.ntmps79, Try.results79, ↓V_convert, ↓V_bytes, stdl, cond_true, cond_false, Nat.reduceEqDiff, Nat.reduceAdd, Nat.reduceMul, Nat.reduceSub, Nat.reduceLT, Int.reduceEq, Int.reduceLT, Int.reduceLE, Int.reduceNeg, Nat.reduceLeDiff, if_true, if_false, ↓reduceIte, forall_const, implies_true, reduceCtorEq, forall_eq_or_imp, forall_eq, ne_eq]
    rfl
  · trivial
  · rintro ⟨i, hi, ha⟩
    simp (maxSteps := 2000000) (contextual := true) only [↓ctl, evl, val, valP, own, tys, Try.ntmps79, Try.results79, ↓V_convert, ↓V_bytes, stdl, cond_true, cond_false, Nat.reduceEqDiff, Nat.reduceAdd, Nat.reduceMul, Nat.reduceSub, Nat.reduceLT, Int.reduceEq, Int.reduceLT, Int.reduceLE, Int.reduceNeg, Nat.reduceLeDiff, if_true, if_false, ↓reduceIte, forall_const, implies_true, reduceCtorEq, forall_eq_or_imp, forall_eq, ne_eq]
    refine ⟨fun hlt => ⟨fun h0 => ?_, fun h0 => V_backI ⟨i + 1, by omega, ?_⟩ (by show _ - (i + 1) < _; omega) (weakI ?_)⟩, fun hlt => ?_⟩
    · rw [ha, any_drop default hlt]; grind
    · rw [ha, any_drop default hlt]; grind
    · simp (maxSteps := 2000000) (contextual := true) only [↓ctl, evl, val, valP, own, tys, Try.ntmps79, Try.results79, ↓V_convert, ↓V_bytes, stdl, cond_true, cond_false, Nat.reduceEqDiff, Nat.reduceAdd, Nat.reduceMul, Nat.reduceSub, Nat.reduceLT, Int.reduceEq, Int.reduceLT, Int.reduceLE, Int.reduceNeg, Nat.reduceLeDiff, if_true, if_false, ↓reduceIte, forall_const, implies_true, reduceCtorEq, forall_eq_or_imp, forall_eq, ne_eq]
      rw [wrap_id (by omega) (by omega)]
      rfl
    · rw [ha, drop_end _ _ hlt]; rfl
end Go.Proofs.Ytobnbajakenbeaa


/- Contracts: ranges, owners, membership, sameness. -/
set_option linter.all false
set_option maxRecDepth 10000
namespace Go.Proofs.Ytobnbajakenbeaa
open Go Go.Eng

def inR (n lo hi : Int) : Bool := decide (lo ≤ n) && decide (n ≤ hi)
theorem d_l01In (n lo hi : Int) : Gives Go.Proofs.Try.prog 38 [I n, I lo, I hi] (.bool (inR n lo hi)) := by
  refine gives_of_V mixed Go.Proofs.Try.call38 Go.Proofs.Try.func38 rfl (by rw [Go.Proofs.Try.ntmps38]; simp) ?_
  simp (maxSteps := 2000000) (contextual := true) only [↓ctl, evl, val, valP, own, tys, Try.ntmps38, Try.results38, ↓V_convert, ↓V_bytes, stdl, cond_true, cond_false, Nat.reduceEqDiff, Nat.reduceAdd, Nat.reduceMul, Nat.reduceSub, Nat.reduceLT, Int.reduceEq, Int.reduceLT, Int.reduceLE, Int.reduceNeg, Nat.reduceLeDiff, if_true, if_false, ↓reduceIte, forall_const, implies_true, reduceCtorEq, forall_eq_or_imp, forall_eq, ne_eq, inR, ge_iff_le]
def isUser (u : Int) : Bool := inR u 0 3
theorem e_isUser (u : Int) : Gives Go.Proofs.Try.prog 88 [I u] (.bool (isUser u)) := by
  have := c_isUser u
  have e : isUser u = (decide (0 ≤ u) && decide (u < 4)) := by simp [isUser, inR]; grind
  rw [e]; exact this
theorem d_l06User (u : Int) : Gives Go.Proofs.Try.prog 78 [I u] (.bool (isUser u)) := by
  refine gives_of_V mixed Go.Proofs.Try.call78 Go.Proofs.Try.func78 rfl (by rw [Go.Proofs.Try.ntmps78]; simp) ?_
  simp (maxSteps := 2000000) (contextual := true) only [↓ctl, evl, val, valP, own, tys, Try.ntmps78, Try.results78, ↓V_convert, ↓V_bytes, stdl, cond_true, cond_false, Nat.reduceEqDiff, Nat.reduceAdd, Nat.reduceMul, Nat.reduceSub, Nat.reduceLT, Int.reduceEq, Int.reduceLT, Int.reduceLE, Int.reduceNeg, Nat.reduceLeDiff, if_true, if_false, ↓reduceIte, forall_const, implies_true, reduceCtorEq, forall_eq_or_imp, forall_eq, ne_eq]
  refine V_callF mixed (cap := []) (fun _ => d_l01In u 0 3) (by simp (maxSteps := 2000000) (contextual := true) only [↓ctl, evl, val, valP, own, tys, Try.ntmps78, Try.results78, ↓V_convert, ↓V_bytes, stdl, cond_true, cond_false, Nat.reduceEqDiff, Nat.reduceAdd, Nat.reduceMul, Nat.reduceSub, Nat.reduceLT, Int.reduceEq, Int.reduceLT, Int.reduceLE, Int.reduceNeg, Nat.reduceLeDiff, if_true, if_false, ↓reduceIte, forall_const, implies_true, reduceCtorEq, forall_eq_or_imp, forall_eq, ne_eq]) (by simp (maxSteps := 2000000) (contextual := true) only [↓ctl, evl, val, valP, own, tys, Try.ntmps78, Try.results78, ↓V_convert, ↓V_bytes, stdl, cond_true, cond_false, Nat.reduceEqDiff, Nat.reduceAdd, Nat.reduceMul, Nat.reduceSub, Nat.reduceLT, Int.reduceEq, Int.reduceLT, Int.reduceLE, Int.reduceNeg, Nat.reduceLeDiff, if_true, if_false, ↓reduceIte, forall_const, implies_true, reduceCtorEq, forall_eq_or_imp, forall_eq, ne_eq]) (by simp (maxSteps := 2000000) (contextual := true) only [↓ctl, evl, val, valP, own, tys, Try.ntmps78, Try.results78, ↓V_convert, ↓V_bytes, stdl, cond_true, cond_false, Nat.reduceEqDiff, Nat.reduceAdd, Nat.reduceMul, Nat.reduceSub, Nat.reduceLT, Int.reduceEq, Int.reduceLT, Int.reduceLE, Int.reduceNeg, Nat.reduceLeDiff, if_true, if_false, ↓reduceIte, forall_const, implies_true, reduceCtorEq, forall_eq_or_imp, forall_eq, ne_eq]) trivial ?_
  simp (maxSteps := 2000000) (contextual := true) only [↓ctl, evl, val, valP, own, tys, Try.ntmps78, Try.results78, ↓V_convert, ↓V_bytes, stdl, cond_true, cond_false, Nat.reduceEqDiff, Nat.reduceAdd, Nat.reduceMul, Nat.reduceSub, Nat.reduceLT, Int.reduceEq, Int.reduceLT, Int.reduceLE, Int.reduceNeg, Nat.reduceLeDiff, if_true, if_false, ↓reduceIte, forall_const, implies_true, reduceCtorEq, forall_eq_or_imp, forall_eq, ne_eq]
  rfl
def isMode (u : Int) : Bool := inR u 0 2047
theorem d_l06Mode (u : Int) : Gives Go.Proofs.Try.prog 77 [I u] (.bool (isMode u)) := by
  refine gives_of_V mixed Go.Proofs.Try.call77 Go.Proofs.Try.func77 rfl (by rw [Go.Proofs.Try.ntmps77]; simp) ?_
  simp (maxSteps := 2000000) (contextual := true) only [↓ctl, evl, val, valP, own, tys, Try.ntmps77, Try.results77, ↓V_convert, ↓V_bytes, stdl, cond_true, cond_false, Nat.reduceEqDiff, Nat.reduceAdd, Nat.reduceMul, Nat.reduceSub, Nat.reduceLT, Int.reduceEq, Int.reduceLT, Int.reduceLE, Int.reduceNeg, Nat.reduceLeDiff, if_true, if_false, ↓reduceIte, forall_const, implies_true, reduceCtorEq, forall_eq_or_imp, forall_eq, ne_eq]
  refine V_callF mixed (cap := []) (fun _ => d_l01In u 0 2047) (by simp (maxSteps := 2000000) (contextual := true) only [↓ctl, evl, val, valP, own, tys, Try.ntmps77, Try.results77, ↓V_convert, ↓V_bytes, stdl, cond_true, cond_false, Nat.reduceEqDiff, Nat.reduceAdd, Nat.reduceMul, Nat.reduceSub, Nat.reduceLT, Int.reduceEq, Int.reduceLT, Int.reduceLE, Int.reduceNeg, Nat.reduceLeDiff, if_true, if_false, ↓reduceIte, forall_const, implies_true, reduceCtorEq, forall_eq_or_imp, forall_eq, ne_eq]) (by simp (maxSteps := 2000000) (contextual := true) only [↓ctl, evl, val, valP, own, tys, Try.ntmps77, Try.results77, ↓V_convert, ↓V_bytes, stdl, cond_true, cond_false, Nat.reduceEqDiff, Nat.reduceAdd, Nat.reduceMul, Nat.reduceSub, Nat.reduceLT, Int.reduceEq, Int.reduceLT, Int.reduceLE, Int.reduceNeg, Nat.reduceLeDiff, if_true, if_false, ↓reduceIte, forall_const, implies_true, reduceCtorEq, forall_eq_or_imp, forall_eq, ne_eq]) (by simp (maxSteps := 2000000) (contextual := true) only [↓ctl, evl, val, valP, own, tys, Try.ntmps77, Try.results77, ↓V_convert, ↓V_bytes, stdl, cond_true, cond_false, Nat.reduceEqDiff, Nat.reduceAdd, Nat.reduceMul, Nat.reduceSub, Nat.reduceLT, Int.reduceEq, Int.reduceLT, Int.reduceLE, Int.reduceNeg, Nat.reduceLeDiff, if_true, if_false, ↓reduceIte, forall_const, implies_true, reduceCtorEq, forall_eq_or_imp, forall_eq, ne_eq]) trivial ?_
  simp (maxSteps := 2000000) (contextual := true) only [↓ctl, evl, val, valP, own, tys, Try.ntmps77, Try.results77, ↓V_convert, ↓V_bytes, stdl, cond_true, cond_false, Nat.reduceEqDiff, Nat.reduceAdd, Nat.reduceMul, Nat.reduceSub, Nat.reduceLT, Int.reduceEq, Int.reduceLT, Int.reduceLE, Int.reduceNeg, Nat.reduceLeDiff, if_true, if_false, ↓reduceIte, forall_const, implies_true, reduceCtorEq, forall_eq_or_imp, forall_eq, ne_eq]
  rfl
theorem c_isMode (u : Int) : Gives Go.Proofs.Try.prog 87 [I u] (.bool (isMode u)) := by
  refine gives_of_V mixed Go.Proofs.Try.call87 Go.Proofs.Try.func87 rfl (by rw [Go.Proofs.Try.ntmps87]; simp) ?_
  simp (maxSteps := 2000000) (contextual := true) only [↓ctl, evl, val, valP, own, tys, Try.ntmps87, Try.results87, ↓V_convert, ↓V_bytes, stdl, cond_true, cond_false, Nat.reduceEqDiff, Nat.reduceAdd, Nat.reduceMul, Nat.reduceSub, Nat.reduceLT, Int.reduceEq, Int.reduceLT, Int.reduceLE, Int.reduceNeg, Nat.reduceLeDiff, if_true, if_false, ↓reduceIte, forall_const, implies_true, reduceCtorEq, forall_eq_or_imp, forall_eq, ne_eq, isMode, inR, ge_iff_le]
def owner (b : Int) : Int := if inR b 0 55 then b / 14 else -1
theorem d_BlockOwner (b : Int) : Gives Go.Proofs.Try.prog 81 [I b] (.int .i64 (owner b)) := by
  refine gives_of_V mixed Go.Proofs.Try.call81 Go.Proofs.Try.func81 rfl (by rw [Go.Proofs.Try.ntmps81]; simp) ?_
  simp (maxSteps := 2000000) (contextual := true) only [↓ctl, evl, val, valP, own, tys, Try.ntmps81, Try.results81, ↓V_convert, ↓V_bytes, stdl, cond_true, cond_false, Nat.reduceEqDiff, Nat.reduceAdd, Nat.reduceMul, Nat.reduceSub, Nat.reduceLT, Int.reduceEq, Int.reduceLT, Int.reduceLE, Int.reduceNeg, Nat.reduceLeDiff, if_true, if_false, ↓reduceIte, forall_const, implies_true, reduceCtorEq, forall_eq_or_imp, forall_eq, ne_eq]
  refine V_callF mixed (cap := []) (fun _ => d_l01In b 0 55) (by simp (maxSteps := 2000000) (contextual := true) only [↓ctl, evl, val, valP, own, tys, Try.ntmps81, Try.results81, ↓V_convert, ↓V_bytes, stdl, cond_true, cond_false, Nat.reduceEqDiff, Nat.reduceAdd, Nat.reduceMul, Nat.reduceSub, Nat.reduceLT, Int.reduceEq, Int.reduceLT, Int.reduceLE, Int.reduceNeg, Nat.reduceLeDiff, if_true, if_false, ↓reduceIte, forall_const, implies_true, reduceCtorEq, forall_eq_or_imp, forall_eq, ne_eq]) (by simp (maxSteps := 2000000) (contextual := true) only [↓ctl, evl, val, valP, own, tys, Try.ntmps81, Try.results81, ↓V_convert, ↓V_bytes, stdl, cond_true, cond_false, Nat.reduceEqDiff, Nat.reduceAdd, Nat.reduceMul, Nat.reduceSub, Nat.reduceLT, Int.reduceEq, Int.reduceLT, Int.reduceLE, Int.reduceNeg, Nat.reduceLeDiff, if_true, if_false, ↓reduceIte, forall_const, implies_true, reduceCtorEq, forall_eq_or_imp, forall_eq, ne_eq]) (by simp (maxSteps := 2000000) (contextual := true) only [↓ctl, evl, val, valP, own, tys, Try.ntmps81, Try.results81, ↓V_convert, ↓V_bytes, stdl, cond_true, cond_false, Nat.reduceEqDiff, Nat.reduceAdd, Nat.reduceMul, Nat.reduceSub, Nat.reduceLT, Int.reduceEq, Int.reduceLT, Int.reduceLE, Int.reduceNeg, Nat.reduceLeDiff, if_true, if_false, ↓reduceIte, forall_const, implies_true, reduceCtorEq, forall_eq_or_imp, forall_eq, ne_eq]) trivial ?_
  simp (maxSteps := 2000000) (contextual := true) only [↓ctl, evl, val, valP, own, tys, Try.ntmps81, Try.results81, ↓V_convert, ↓V_bytes, stdl, cond_true, cond_false, Nat.reduceEqDiff, Nat.reduceAdd, Nat.reduceMul, Nat.reduceSub, Nat.reduceLT, Int.reduceEq, Int.reduceLT, Int.reduceLE, Int.reduceNeg, Nat.reduceLeDiff, if_true, if_false, ↓reduceIte, forall_const, implies_true, reduceCtorEq, forall_eq_or_imp, forall_eq, ne_eq]
  refine ⟨fun h => by simp [owner, h], fun h => ?_⟩
  have h' := h
  simp only [inR, Bool.and_eq_true, decide_eq_true_eq] at h'
  simp only [owner, h, if_true]
  exact quoV_pos (by omega) (by omega) (by omega)
theorem c_BlockOwner (b : Int) : Gives Go.Proofs.Try.prog 56 [I b] (.int .i64 (owner b)) := by
  refine gives_of_V mixed Go.Proofs.Try.call56 Go.Proofs.Try.func56 rfl (by rw [Go.Proofs.Try.ntmps56]; simp) ?_
  simp (maxSteps := 2000000) (contextual := true) only [↓ctl, evl, val, valP, own, tys, Try.ntmps56, Try.results56, ↓V_convert, ↓V_bytes, stdl, cond_true, cond_false, Nat.reduceEqDiff, Nat.reduceAdd, Nat.reduceMul, Nat.reduceSub, Nat.reduceLT, Int.reduceEq, Int.reduceLT, Int.reduceLE, Int.reduceNeg, Nat.reduceLeDiff, if_true, if_false, ↓reduceIte, forall_const, implies_true, reduceCtorEq, forall_eq_or_imp, forall_eq, ne_eq]
  refine ⟨fun h => ?_, fun h => ?_⟩
  · have e : inR b 0 55 = false := by unfold inR; grind
    simp [owner, e]
  · have e : inR b 0 55 = true := by unfold inR; grind
    simp only [owner, e, if_true]
    exact quoV_pos (by omega) (by omega) (by omega)
theorem d_BlocksNeeded (u : Int) (hu : In64 u) : Gives Go.Proofs.Try.prog 66 [I u] (.int .i64 (if u ≤ 0 then 0 else (u - 1) / 32 + 1)) := by
  refine gives_of_V mixed Go.Proofs.Try.call66 Go.Proofs.Try.func66 rfl (by rw [Go.Proofs.Try.ntmps66]; simp) ?_
  simp (maxSteps := 2000000) (contextual := true) only [↓ctl, evl, val, valP, own, tys, Try.ntmps66, Try.results66, ↓V_convert, ↓V_bytes, stdl, cond_true, cond_false, Nat.reduceEqDiff, Nat.reduceAdd, Nat.reduceMul, Nat.reduceSub, Nat.reduceLT, Int.reduceEq, Int.reduceLT, Int.reduceLE, Int.reduceNeg, Nat.reduceLeDiff, if_true, if_false, ↓reduceIte, forall_const, implies_true, reduceCtorEq, forall_eq_or_imp, forall_eq, ne_eq]
  intro h
  simp (disch := omega) only [wrap_id, quoV_pos]
def idxFrom (n : Int) : Nat → List Int → Int
  | _, [] => -1
  | i, x :: xs => if n = x then i else idxFrom n (i + 1) xs
theorem idxFrom_ge (n : Int) : ∀ (l : List Int) (i : Nat), decide (idxFrom n i l ≥ 0) = l.any (· == n)
  | [], i => by simp [idxFrom]
  | x :: xs, i => by
    simp only [idxFrom, List.any_cons]
    split
    · rename_i h; subst h; simp
    · rename_i h
      rw [idxFrom_ge n xs (i + 1)]
      have : (x == n) = false := by simp only [beq_eq_false_iff_ne]; exact fun e => h e.symm
      rw [this, Bool.false_or]
theorem c_Index (l : List Int) (n : Int) (hs : l.length ≤ 1099511627776) : Gives Go.Proofs.Try.prog 107 [.rd 1 (l.map intRow), I n] (.int .i64 (idxFrom n 0 l)) := by
  refine gives_of_V mixed Go.Proofs.Try.call107 Go.Proofs.Try.func107 rfl (by rw [Go.Proofs.Try.ntmps107]; simp) ?_
  simp (maxSteps := 2000000) (contextual := true) only [↓ctl, evl, val, valP, own, tys, Try.ntmps107, Try.results107, ↓V_convert, ↓V_bytes, stdl, cond_true, cond_false, Nat.reduceEqDiff, Nat.reduceAdd, Nat.reduceMul, Nat.reduceSub, Nat.reduceLT, Int.reduceEq, Int.reduceLT, Int.reduceLE, Int.reduceNeg, Nat.reduceLeDiff, if_true, if_false, ↓reduceIte, forall_const, implies_true, reduceCtorEq, forall_eq_or_imp, forall_eq, ne_eq]
  refine V_loopI mixed (ι := {i : Nat // i ≤ l.length ∧ idxFrom n 0 l = idxFrom n i (l.drop i)}) (fun i => ⟨[(0, true, .rd 1 (l.map intRow)), (1, true, I n), (7, true, I l.length), (8, true, I i.1)], [], 0, 19⟩) (fun i => l.length - i.1)  ⟨0, by simp⟩ ?_ ?_ ?_
  · refine weakI ?_
    simp (maxSteps := 2000000) (contextual := true) only [↓ctl, evl, val, valP, own, tys, Try.ntmps107, Try.results107, ↓V_convert, ↓V_bytes, stdl, cond_true, cond_false, Nat.reduceEqDiff, Nat.reduceAdd, Nat.reduceMul, Nat.reduceSub, Nat.reduceLT, Int.reduceEq, Int.reduceLT, Int.reduceLE, Int.reduceNeg, Nat.reduceLeDiff, if_true, if_false, ↓reduceIte, forall_const, implies_true, reduceCtorEq, forall_eq_or_imp, forall_eq, ne_eq]
    rfl
  · trivial
  · rintro ⟨i, hi, ha⟩
    simp (maxSteps := 2000000) (contextual := true) only [↓ctl, evl, val, valP, own, tys, Try.ntmps107, Try.results107, ↓V_convert, ↓V_bytes, stdl, cond_true, cond_false, Nat.reduceEqDiff, Nat.reduceAdd, Nat.reduceMul, Nat.reduceSub, Nat.reduceLT, Int.reduceEq, Int.reduceLT, Int.reduceLE, Int.reduceNeg, Nat.reduceLeDiff, if_true, if_false, ↓reduceIte, forall_const, implies_true, reduceCtorEq, forall_eq_or_imp, forall_eq, ne_eq]
    refine ⟨fun hlt => ⟨fun h0 => ?_, fun h0 => V_backI ⟨i + 1, by omega, ?_⟩ (by show _ - (i + 1) < _; omega) (weakI ?_)⟩, fun hlt => ?_⟩
    · rw [← h0, ha, drop_getD default hlt, idxFrom, if_pos h0]
    · rw [ha, drop_getD default hlt]; rw [idxFrom, if_neg h0]
    · simp (maxSteps := 2000000) (contextual := true) only [↓ctl, evl, val, valP, own, tys, Try.ntmps107, Try.results107, ↓V_convert, ↓V_bytes, stdl, cond_true, cond_false, Nat.reduceEqDiff, Nat.reduceAdd, Nat.reduceMul, Nat.reduceSub, Nat.reduceLT, Int.reduceEq, Int.reduceLT, Int.reduceLE, Int.reduceNeg, Nat.reduceLeDiff, if_true, if_false, ↓reduceIte, forall_const, implies_true, reduceCtorEq, forall_eq_or_imp, forall_eq, ne_eq]
      rw [wrap_id (by omega) (by omega)]
      rfl
    · rw [ha, drop_end _ _ hlt]; rfl
theorem c_Contains (l : List Int) (n : Int) (hs : l.length ≤ 1099511627776) : Gives Go.Proofs.Try.prog 90 [.rd 1 (l.map intRow), I n] (.bool (l.any (· == n))) := by
  refine gives_of_V mixed Go.Proofs.Try.call90 Go.Proofs.Try.func90 rfl (by rw [Go.Proofs.Try.ntmps90]; simp) ?_
  simp (maxSteps := 2000000) (contextual := true) only [↓ctl, evl, val, valP, own, tys, Try.ntmps90, Try.results90, ↓V_convert, ↓V_bytes, stdl, cond_true, cond_false, Nat.reduceEqDiff, Nat.reduceAdd, Nat.reduceMul, Nat.reduceSub, Nat.reduceLT, Int.reduceEq, Int.reduceLT, Int.reduceLE, Int.reduceNeg, Nat.reduceLeDiff, if_true, if_false, ↓reduceIte, forall_const, implies_true, reduceCtorEq, forall_eq_or_imp, forall_eq, ne_eq]
  refine V_callF mixed (cap := []) (fun _ => c_Index l n hs) (by simp (maxSteps := 2000000) (contextual := true) only [↓ctl, evl, val, valP, own, tys, Try.ntmps90, Try.results90, ↓V_convert, ↓V_bytes, stdl, cond_true, cond_false, Nat.reduceEqDiff, Nat.reduceAdd, Nat.reduceMul, Nat.reduceSub, Nat.reduceLT, Int.reduceEq, Int.reduceLT, Int.reduceLE, Int.reduceNeg, Nat.reduceLeDiff, if_true, if_false, ↓reduceIte, forall_const, implies_true, reduceCtorEq, forall_eq_or_imp, forall_eq, ne_eq]) (by simp (maxSteps := 2000000) (contextual := true) only [↓ctl, evl, val, valP, own, tys, Try.ntmps90, Try.results90, ↓V_convert, ↓V_bytes, stdl, cond_true, cond_false, Nat.reduceEqDiff, Nat.reduceAdd, Nat.reduceMul, Nat.reduceSub, Nat.reduceLT, Int.reduceEq, Int.reduceLT, Int.reduceLE, Int.reduceNeg, Nat.reduceLeDiff, if_true, if_false, ↓reduceIte, forall_const, implies_true, reduceCtorEq, forall_eq_or_imp, forall_eq, ne_eq]) (by simp (maxSteps := 2000000) (contextual := true) only [↓ctl, evl, val, valP, own, tys, Try.ntmps90, Try.results90, ↓V_convert, ↓V_bytes, stdl, cond_true, cond_false, Nat.reduceEqDiff, Nat.reduceAdd, Nat.reduceMul, Nat.reduceSub, Nat.reduceLT, Int.reduceEq, Int.reduceLT, Int.reduceLE, Int.reduceNeg, Nat.reduceLeDiff, if_true, if_false, ↓reduceIte, forall_const, implies_true, reduceCtorEq, forall_eq_or_imp, forall_eq, ne_eq]) trivial ?_
  simp (maxSteps := 2000000) (contextual := true) only [↓ctl, evl, val, valP, own, tys, Try.ntmps90, Try.results90, ↓V_convert, ↓V_bytes, stdl, cond_true, cond_false, Nat.reduceEqDiff, Nat.reduceAdd, Nat.reduceMul, Nat.reduceSub, Nat.reduceLT, Int.reduceEq, Int.reduceLT, Int.reduceLE, Int.reduceNeg, Nat.reduceLeDiff, if_true, if_false, ↓reduceIte, forall_const, implies_true, reduceCtorEq, forall_eq_or_imp, forall_eq, ne_eq]
  exact idxFrom_ge n l 0
theorem c_isNaN (a : Int) : Gives Go.Proofs.Try.prog 113 [I a] (.bool false) := by
  refine gives_of_V mixed Go.Proofs.Try.call113 Go.Proofs.Try.func113 rfl (by rw [Go.Proofs.Try.ntmps113]; simp) ?_
  simp (maxSteps := 2000000) (contextual := true) only [↓ctl, evl, val, valP, own, tys, Try.ntmps113, Try.results113, ↓V_convert, ↓V_bytes, stdl, cond_true, cond_false, Nat.reduceEqDiff, Nat.reduceAdd, Nat.reduceMul, Nat.reduceSub, Nat.reduceLT, Int.reduceEq, Int.reduceLT, Int.reduceLE, Int.reduceNeg, Nat.reduceLeDiff, if_true, if_false, ↓reduceIte, forall_const, implies_true, reduceCtorEq, forall_eq_or_imp, forall_eq, ne_eq]
theorem c_Compare (a b : Int) : Gives Go.Proofs.Try.prog 106 [I a, I b] (.int .i64 (if a < b then -1 else if a > b then 1 else 0)) := by
  refine gives_of_V mixed Go.Proofs.Try.call106 Go.Proofs.Try.func106 rfl (by rw [Go.Proofs.Try.ntmps106]; simp) ?_
  simp (maxSteps := 2000000) (contextual := true) only [↓ctl, evl, val, valP, own, tys, Try.ntmps106, Try.results106, ↓V_convert, ↓V_bytes, stdl, cond_true, cond_false, Nat.reduceEqDiff, Nat.reduceAdd, Nat.reduceMul, Nat.reduceSub, Nat.reduceLT, Int.reduceEq, Int.reduceLT, Int.reduceLE, Int.reduceNeg, Nat.reduceLeDiff, if_true, if_false, ↓reduceIte, forall_const, implies_true, reduceCtorEq, forall_eq_or_imp, forall_eq, ne_eq]
  refine V_callF mixed (cap := []) (fun _ => c_isNaN a) (by simp (maxSteps := 2000000) (contextual := true) only [↓ctl, evl, val, valP, own, tys, Try.ntmps106, Try.results106, ↓V_convert, ↓V_bytes, stdl, cond_true, cond_false, Nat.reduceEqDiff, Nat.reduceAdd, Nat.reduceMul, Nat.reduceSub, Nat.reduceLT, Int.reduceEq, Int.reduceLT, Int.reduceLE, Int.reduceNeg, Nat.reduceLeDiff, if_true, if_false, ↓reduceIte, forall_const, implies_true, reduceCtorEq, forall_eq_or_imp, forall_eq, ne_eq]) (by simp (maxSteps := 2000000) (contextual := true) only [↓ctl, evl, val, valP, own, tys, Try.ntmps106, Try.results106, ↓V_convert, ↓V_bytes, stdl, cond_true, cond_false, Nat.reduceEqDiff, Nat.reduceAdd, Nat.reduceMul, Nat.reduceSub, Nat.reduceLT, Int.reduceEq, Int.reduceLT, Int.reduceLE, Int.reduceNeg, Nat.reduceLeDiff, if_true, if_false, ↓reduceIte, forall_const, implies_true, reduceCtorEq, forall_eq_or_imp, forall_eq, ne_eq]) (by simp (maxSteps := 2000000) (contextual := true) only [↓ctl, evl, val, valP, own, tys, Try.ntmps106, Try.results106, ↓V_convert, ↓V_bytes, stdl, cond_true, cond_false, Nat.reduceEqDiff, Nat.reduceAdd, Nat.reduceMul, Nat.reduceSub, Nat.reduceLT, Int.reduceEq, Int.reduceLT, Int.reduceLE, Int.reduceNeg, Nat.reduceLeDiff, if_true, if_false, ↓reduceIte, forall_const, implies_true, reduceCtorEq, forall_eq_or_imp, forall_eq, ne_eq]) trivial ?_
  simp (maxSteps := 2000000) (contextual := true) only [↓ctl, evl, val, valP, own, tys, Try.ntmps106, Try.results106, ↓V_convert, ↓V_bytes, stdl, cond_true, cond_false, Nat.reduceEqDiff, Nat.reduceAdd, Nat.reduceMul, Nat.reduceSub, Nat.reduceLT, Int.reduceEq, Int.reduceLT, Int.reduceLE, Int.reduceNeg, Nat.reduceLeDiff, if_true, if_false, ↓reduceIte, forall_const, implies_true, reduceCtorEq, forall_eq_or_imp, forall_eq, ne_eq]
  refine V_callF mixed (cap := []) (fun _ => c_isNaN b) (by simp (maxSteps := 2000000) (contextual := true) only [↓ctl, evl, val, valP, own, tys, Try.ntmps106, Try.results106, ↓V_convert, ↓V_bytes, stdl, cond_true, cond_false, Nat.reduceEqDiff, Nat.reduceAdd, Nat.reduceMul, Nat.reduceSub, Nat.reduceLT, Int.reduceEq, Int.reduceLT, Int.reduceLE, Int.reduceNeg, Nat.reduceLeDiff, if_true, if_false, ↓reduceIte, forall_const, implies_true, reduceCtorEq, forall_eq_or_imp, forall_eq, ne_eq]) (by simp (maxSteps := 2000000) (contextual := true) only [↓ctl, evl, val, valP, own, tys, Try.ntmps106, Try.results106, ↓V_convert, ↓V_bytes, stdl, cond_true, cond_false, Nat.reduceEqDiff, Nat.reduceAdd, Nat.reduceMul, Nat.reduceSub, Nat.reduceLT, Int.reduceEq, Int.reduceLT, Int.reduceLE, Int.reduceNeg, Nat.reduceLeDiff, if_true, if_false, ↓reduceIte, forall_const, implies_true, reduceCtorEq, forall_eq_or_imp, forall_eq, ne_eq]) (by simp (maxSteps := 2000000) (contextual := true) only [↓ctl, evl, val, valP, own, tys, Try.ntmps106, Try.results106, ↓V_convert, ↓V_bytes, stdl, cond_true, cond_false, Nat.reduceEqDiff, Nat.reduceAdd, Nat.reduceMul, Nat.reduceSub, Nat.reduceLT, Int.reduceEq, Int.reduceLT, Int.reduceLE, Int.reduceNeg, Nat.reduceLeDiff, if_true, if_false, ↓reduceIte, forall_const, implies_true, reduceCtorEq, forall_eq_or_imp, forall_eq, ne_eq]) trivial ?_
  simp (maxSteps := 2000000) (contextual := true) only [↓ctl, evl, val, valP, own, tys, Try.ntmps106, Try.results106, ↓V_convert, ↓V_bytes, stdl, cond_true, cond_false, Nat.reduceEqDiff, Nat.reduceAdd, Nat.reduceMul, Nat.reduceSub, Nat.reduceLT, Int.reduceEq, Int.reduceLT, Int.reduceLE, Int.reduceNeg, Nat.reduceLeDiff, if_true, if_false, ↓reduceIte, forall_const, implies_true, reduceCtorEq, forall_eq_or_imp, forall_eq, ne_eq]
theorem eq_drop {α : Type} [BEq α] (d : α) {a b : List α} {i : Nat} (hl : a.length = b.length) (h : i < a.length) : (a.drop i == b.drop i) = ((a.getD i d == b.getD i d) && (a.drop (i + 1) == b.drop (i + 1))) := by
  have h2 : i < b.length := by omega
  have e1 := drop_getD d h
  have e2 := drop_getD d h2
  rw [e1, e2]; rfl
theorem d_l02Same (a b : List Int) (ha : a.length ≤ 1099511627776) (hb : b.length ≤ 1099511627776) : Gives Go.Proofs.Try.prog 99 [.rd 1 (a.map intRow), .rd 1 (b.map intRow)] (.bool (a == b)) := by
  refine gives_of_V mixed Go.Proofs.Try.call99 Go.Proofs.Try.func99 rfl (by rw [Go.Proofs.Try.ntmps99]; simp) ?_
  simp (maxSteps := 2000000) (contextual := true) only [↓ctl, evl, val, valP, own, tys, Try.ntmps99, Try.results99, ↓V_convert, ↓V_bytes, stdl, cond_true, cond_false, Nat.reduceEqDiff, Nat.reduceAdd, Nat.reduceMul, Nat.reduceSub, Nat.reduceLT, Int.reduceEq, Int.reduceLT, Int.reduceLE, Int.reduceNeg, Nat.reduceLeDiff, if_true, if_false, ↓reduceIte, forall_const, implies_true, reduceCtorEq, forall_eq_or_imp, forall_eq, ne_eq]
  refine ⟨fun h => ?_, fun h => ?_⟩
  · have : a.length ≠ b.length := by omega
    symm; simp only [beq_eq_false_iff_ne]; intro e; exact this (by rw [e])
  have hl : a.length = b.length := by omega
  refine V_loopI mixed (ι := {i : Nat // i ≤ a.length ∧ (a == b) = (a.drop i == b.drop i)}) (fun i => ⟨[(1, true, .rd 1 (b.map intRow)), (12, true, .rd 1 (a.map intRow)), (13, true, I a.length), (14, true, I i.1)], [], 0, 26⟩) (fun i => a.length - i.1)  ⟨0, by simp⟩ ?_ ?_ ?_
  · refine weakI ?_
    simp (maxSteps := 2000000) (contextual := true) only [↓ctl, evl, val, valP, own, tys, Try.ntmps99, Try.results99, ↓V_convert, ↓V_bytes, stdl, cond_true, cond_false, Nat.reduceEqDiff, Nat.reduceAdd, Nat.reduceMul, Nat.reduceSub, Nat.reduceLT, Int.reduceEq, Int.reduceLT, Int.reduceLE, Int.reduceNeg, Nat.reduceLeDiff, if_true, if_false, ↓reduceIte, forall_const, implies_true, reduceCtorEq, forall_eq_or_imp, forall_eq, ne_eq]
    simp [hl]
  · trivial
  · rintro ⟨i, hi, hx⟩
    simp (maxSteps := 2000000) (contextual := true) only [↓ctl, evl, val, valP, own, tys, Try.ntmps99, Try.results99, ↓V_convert, ↓V_bytes, stdl, cond_true, cond_false, Nat.reduceEqDiff, Nat.reduceAdd, Nat.reduceMul, Nat.reduceSub, Nat.reduceLT, Int.reduceEq, Int.reduceLT, Int.reduceLE, Int.reduceNeg, Nat.reduceLeDiff, if_true, if_false, ↓reduceIte, forall_const, implies_true, reduceCtorEq, forall_eq_or_imp, forall_eq, ne_eq, ← hl]
    refine ⟨fun hlt => ⟨fun h0 => ?_, fun h0 => V_backI ⟨i + 1, by omega, ?_⟩ (by show _ - (i + 1) < _; omega) (weakI ?_)⟩, fun hlt => ?_⟩
    · rw [hx, eq_drop default hl hlt]; grind
    · rw [hx, eq_drop default hl hlt]; grind
    · simp (maxSteps := 2000000) (contextual := true) only [↓ctl, evl, val, valP, own, tys, Try.ntmps99, Try.results99, ↓V_convert, ↓V_bytes, stdl, cond_true, cond_false, Nat.reduceEqDiff, Nat.reduceAdd, Nat.reduceMul, Nat.reduceSub, Nat.reduceLT, Int.reduceEq, Int.reduceLT, Int.reduceLE, Int.reduceNeg, Nat.reduceLeDiff, if_true, if_false, ↓reduceIte, forall_const, implies_true, reduceCtorEq, forall_eq_or_imp, forall_eq, ne_eq]
      rw [wrap_id (by omega) (by omega)]
      rfl
    · rw [hx, drop_end _ _ hlt, drop_end _ _ (by omega)]; rfl
end Go.Proofs.Ytobnbajakenbeaa


/- Data: entries, inodes; contracts: sameness. -/
set_option linter.all false
set_option maxRecDepth 10000
namespace Go.Proofs.Ytobnbajakenbeaa
open Go Go.Eng

structure Acl where
  tag : Int
  id : Int
  perm : Int
  deriving DecidableEq, Inhabited
structure Inode where
  kind : Int
  mode : Int
  uid : Int
  gid : Int
  links : Int
  size : Int
  tick : Int
  blocks : List Int
  acl : List Acl
  dflt : List Acl
  deriving DecidableEq, Inhabited

def intVals (n : Int) : List Value := [.int .i64 n]
def aclVals (e : Acl) : List Value := [.int .i64 e.tag, .int .i64 e.id, .int .i64 e.perm]
def aclRow (e : Acl) : List Cell := [.v (.int .i64 e.tag), .v (.int .i64 e.id), .v (.int .i64 e.perm)]
theorem aclRow_e (e : Acl) : aclRow e = [.v (.int .i64 e.tag), .v (.int .i64 e.id), .v (.int .i64 e.perm)] := rfl
theorem ints_map (l : List Int) : (l.map intVals).map (fun x => x.map Cell.v) = l.map intRow := by rw [List.map_map]; rfl
theorem acls_map (l : List Acl) : (l.map aclVals).map (fun x => x.map Cell.v) = l.map aclRow := by rw [List.map_map]; rfl
def aclAV (e : Acl) : AV := .agg [I e.tag, I e.id, I e.perm]
def inodeRow (n : Inode) : List Cell := [.v (.int .i64 n.kind), .v (.int .i64 n.mode), .v (.int .i64 n.uid), .v (.int .i64 n.gid), .v (.int .i64 n.links), .v (.int .i64 n.size), .v (.int .i64 n.tick),
  .s 3 1 (n.blocks.map intVals), .s 111 3 (n.acl.map aclVals), .s 111 3 (n.dflt.map aclVals)]
theorem inodeRow_e (n : Inode) : inodeRow n = [.v (.int .i64 n.kind), .v (.int .i64 n.mode), .v (.int .i64 n.uid), .v (.int .i64 n.gid), .v (.int .i64 n.links), .v (.int .i64 n.size), .v (.int .i64 n.tick),
  .s 3 1 (n.blocks.map intVals), .s 111 3 (n.acl.map aclVals), .s 111 3 (n.dflt.map aclVals)] := rfl
def inodeAV (n : Inode) : AV := .agg [I n.kind, I n.mode, I n.uid, I n.gid, I n.links, I n.size, I n.tick, .rd 1 (n.blocks.map intRow), .rd 3 (n.acl.map aclRow), .rd 3 (n.dflt.map aclRow)]
/-- The rules for rows. -/
theorem dat : (type_of% @aclRow_e) ∧ (type_of% @ints_map) ∧ (type_of% @acls_map) ∧ (type_of% @inodeRow_e) := ⟨@aclRow_e, @ints_map, @acls_map, @inodeRow_e⟩

theorem c_EqualI (a b : List Int) (ha : a.length ≤ 1099511627776) (hb : b.length ≤ 1099511627776) : Gives Go.Proofs.Try.prog 103 [.rd 1 (a.map intRow), .rd 1 (b.map intRow)] (.bool (a == b)) := by
  refine gives_of_V mixed Go.Proofs.Try.call103 Go.Proofs.Try.func103 rfl (by rw [Go.Proofs.Try.ntmps103]; simp) ?_
  simp (maxSteps := 2000000) (contextual := true) only [↓ctl, evl, val, valP, own, tys, Try.ntmps103, Try.results103, ↓V_convert, ↓V_bytes, stdl, cond_true, cond_false, Nat.reduceEqDiff, Nat.reduceAdd, Nat.reduceMul, Nat.reduceSub, Nat.reduceLT, Int.reduceEq, Int.reduceLT, Int.reduceLE, Int.reduceNeg, Nat.reduceLeDiff, if_true, if_false, ↓reduceIte, forall_const, implies_true, reduceCtorEq, forall_eq_or_imp, forall_eq, ne_eq]
  refine ⟨fun h => ?_, fun h => ?_⟩
  · have : a.length ≠ b.length := by omega
    symm; simp only [beq_eq_false_iff_ne]; intro e; exact this (by rw [e])
  have hl : a.length = b.length := by omega
  refine V_loopI mixed (ι := {i : Nat // i ≤ a.length ∧ (a == b) = (a.drop i == b.drop i)}) (fun i => ⟨[(0, true, .rd 1 (a.map intRow)), (1, true, .rd 1 (b.map intRow)), (12, true, I a.length), (13, true, I i.1)], [], 0, 26⟩) (fun i => a.length - i.1)  ⟨0, by simp⟩ ?_ ?_ ?_
  · refine weakI ?_
    simp (maxSteps := 2000000) (contextual := true) only [↓ctl, evl, val, valP, own, tys, Try.ntmps103, Try.results103, ↓V_convert, ↓V_bytes, stdl, cond_true, cond_false, Nat.reduceEqDiff, Nat.reduceAdd, Nat.reduceMul, Nat.reduceSub, Nat.reduceLT, Int.reduceEq, Int.reduceLT, Int.reduceLE, Int.reduceNeg, Nat.reduceLeDiff, if_true, if_false, ↓reduceIte, forall_const, implies_true, reduceCtorEq, forall_eq_or_imp, forall_eq, ne_eq]
    simp [hl]
  · trivial
  · rintro ⟨i, hi, hx⟩
    simp (maxSteps := 2000000) (contextual := true) only [↓ctl, evl, val, valP, own, tys, Try.ntmps103, Try.results103, ↓V_convert, ↓V_bytes, stdl, cond_true, cond_false, Nat.reduceEqDiff, Nat.reduceAdd, Nat.reduceMul, Nat.reduceSub, Nat.reduceLT, Int.reduceEq, Int.reduceLT, Int.reduceLE, Int.reduceNeg, Nat.reduceLeDiff, if_true, if_false, ↓reduceIte, forall_const, implies_true, reduceCtorEq, forall_eq_or_imp, forall_eq, ne_eq, ← hl]
    refine ⟨fun hlt => ⟨by kernel_rfl, fun h0 => ?_, fun h0 => V_backI ⟨i + 1, by omega, ?_⟩ (by show _ - (i + 1) < _; omega) (weakI ?_)⟩, fun hlt => ?_⟩
    · rw [hx, eq_drop default hl hlt]; grind
    · rw [hx, eq_drop default hl hlt]; grind
    · simp (maxSteps := 2000000) (contextual := true) only [↓ctl, evl, val, valP, own, tys, Try.ntmps103, Try.results103, ↓V_convert, ↓V_bytes, stdl, cond_true, cond_false, Nat.reduceEqDiff, Nat.reduceAdd, Nat.reduceMul, Nat.reduceSub, Nat.reduceLT, Int.reduceEq, Int.reduceLT, Int.reduceLE, Int.reduceNeg, Nat.reduceLeDiff, if_true, if_false, ↓reduceIte, forall_const, implies_true, reduceCtorEq, forall_eq_or_imp, forall_eq, ne_eq]
      rw [wrap_id (by omega) (by omega)]
      rfl
    · rw [hx, drop_end _ _ hlt, drop_end _ _ (by omega)]; rfl
theorem acl_beq (a b : Acl) : (a == b) = (a.tag == b.tag && (a.id == b.id && a.perm == b.perm)) := by
  cases a; cases b; grind
theorem c_EqualA (a b : List Acl) (ha : a.length ≤ 1099511627776) (hb : b.length ≤ 1099511627776) : Gives Go.Proofs.Try.prog 104 [.rd 3 (a.map aclRow), .rd 3 (b.map aclRow)] (.bool (a == b)) := by
  refine gives_of_V mixed Go.Proofs.Try.call104 Go.Proofs.Try.func104 rfl (by rw [Go.Proofs.Try.ntmps104]; simp) ?_
  simp (maxSteps := 2000000) (contextual := true) only [↓ctl, evl, val, valP, own, tys, Try.ntmps104, Try.results104, ↓V_convert, ↓V_bytes, stdl, cond_true, cond_false, Nat.reduceEqDiff, Nat.reduceAdd, Nat.reduceMul, Nat.reduceSub, Nat.reduceLT, Int.reduceEq, Int.reduceLT, Int.reduceLE, Int.reduceNeg, Nat.reduceLeDiff, if_true, if_false, ↓reduceIte, forall_const, implies_true, reduceCtorEq, forall_eq_or_imp, forall_eq, ne_eq]
  refine ⟨fun h => ?_, fun h => ?_⟩
  · have : a.length ≠ b.length := by omega
    symm; simp only [beq_eq_false_iff_ne]; intro e; exact this (by rw [e])
  have hl : a.length = b.length := by omega
  refine V_loopI mixed (ι := {i : Nat // i ≤ a.length ∧ (a == b) = (a.drop i == b.drop i)}) (fun i => ⟨[(0, true, .rd 3 (a.map aclRow)), (1, true, .rd 3 (b.map aclRow)), (12, true, I a.length), (13, true, I i.1)], [], 0, 26⟩) (fun i => a.length - i.1)  ⟨0, by simp⟩ ?_ ?_ ?_
  · refine weakI ?_
    simp (maxSteps := 2000000) (contextual := true) only [↓ctl, evl, val, valP, own, tys, Try.ntmps104, Try.results104, ↓V_convert, ↓V_bytes, stdl, cond_true, cond_false, Nat.reduceEqDiff, Nat.reduceAdd, Nat.reduceMul, Nat.reduceSub, Nat.reduceLT, Int.reduceEq, Int.reduceLT, Int.reduceLE, Int.reduceNeg, Nat.reduceLeDiff, if_true, if_false, ↓reduceIte, forall_const, implies_true, reduceCtorEq, forall_eq_or_imp, forall_eq, ne_eq]
    simp [hl]
  · trivial
  · rintro ⟨i, hi, hx⟩
    simp (maxSteps := 2000000) (contextual := true) only [↓ctl, evl, val, valP, own, tys, Try.ntmps104, Try.results104, ↓V_convert, ↓V_bytes, stdl, cond_true, cond_false, Nat.reduceEqDiff, Nat.reduceAdd, Nat.reduceMul, Nat.reduceSub, Nat.reduceLT, Int.reduceEq, Int.reduceLT, Int.reduceLE, Int.reduceNeg, Nat.reduceLeDiff, if_true, if_false, ↓reduceIte, forall_const, implies_true, reduceCtorEq, forall_eq_or_imp, forall_eq, ne_eq, ← hl, dat]
    refine ⟨fun hlt => ⟨by kernel_rfl, fun h0 => ?_, fun h0 => V_backI ⟨i + 1, by omega, ?_⟩ (by show _ - (i + 1) < _; omega) (weakI ?_)⟩, fun hlt => ?_⟩
    · rw [hx, eq_drop default hl hlt, acl_beq]; grind
    · rw [hx, eq_drop default hl hlt, acl_beq]; grind
    · simp (maxSteps := 2000000) (contextual := true) only [↓ctl, evl, val, valP, own, tys, Try.ntmps104, Try.results104, ↓V_convert, ↓V_bytes, stdl, cond_true, cond_false, Nat.reduceEqDiff, Nat.reduceAdd, Nat.reduceMul, Nat.reduceSub, Nat.reduceLT, Int.reduceEq, Int.reduceLT, Int.reduceLE, Int.reduceNeg, Nat.reduceLeDiff, if_true, if_false, ↓reduceIte, forall_const, implies_true, reduceCtorEq, forall_eq_or_imp, forall_eq, ne_eq]
      rw [wrap_id (by omega) (by omega)]
      rfl
    · rw [hx, drop_end _ _ hlt, drop_end _ _ (by omega)]; rfl
theorem d_l05Same (a b : List Acl) (ha : a.length ≤ 1099511627776) (hb : b.length ≤ 1099511627776) : Gives Go.Proofs.Try.prog 100 [.rd 3 (a.map aclRow), .rd 3 (b.map aclRow)] (.bool (a == b)) := by
  refine gives_of_V mixed Go.Proofs.Try.call100 Go.Proofs.Try.func100 rfl (by rw [Go.Proofs.Try.ntmps100]; simp) ?_
  simp (maxSteps := 2000000) (contextual := true) only [↓ctl, evl, val, valP, own, tys, Try.ntmps100, Try.results100, ↓V_convert, ↓V_bytes, stdl, cond_true, cond_false, Nat.reduceEqDiff, Nat.reduceAdd, Nat.reduceMul, Nat.reduceSub, Nat.reduceLT, Int.reduceEq, Int.reduceLT, Int.reduceLE, Int.reduceNeg, Nat.reduceLeDiff, if_true, if_false, ↓reduceIte, forall_const, implies_true, reduceCtorEq, forall_eq_or_imp, forall_eq, ne_eq]
  refine ⟨fun h => ?_, fun h => ?_⟩
  · have : a.length ≠ b.length := by omega
    symm; simp only [beq_eq_false_iff_ne]; intro e; exact this (by rw [e])
  have hl : a.length = b.length := by omega
  refine V_loopI mixed (ι := {i : Nat // i ≤ a.length ∧ (a == b) = (a.drop i == b.drop i)}) (fun i => ⟨[(1, true, .rd 3 (b.map aclRow)), (12, true, .rd 3 (a.map aclRow)), (13, true, I a.length), (14, true, I i.1)], [], 0, 26⟩) (fun i => a.length - i.1)  ⟨0, by simp⟩ ?_ ?_ ?_
  · refine weakI ?_
    simp (maxSteps := 2000000) (contextual := true) only [↓ctl, evl, val, valP, own, tys, Try.ntmps100, Try.results100, ↓V_convert, ↓V_bytes, stdl, cond_true, cond_false, Nat.reduceEqDiff, Nat.reduceAdd, Nat.reduceMul, Nat.reduceSub, Nat.reduceLT, Int.reduceEq, Int.reduceLT, Int.reduceLE, Int.reduceNeg, Nat.reduceLeDiff, if_true, if_false, ↓reduceIte, forall_const, implies_true, reduceCtorEq, forall_eq_or_imp, forall_eq, ne_eq]
    simp [hl]
  · trivial
  · rintro ⟨i, hi, hx⟩
    simp (maxSteps := 2000000) (contextual := true) only [↓ctl, evl, val, valP, own, tys, Try.ntmps100, Try.results100, ↓V_convert, ↓V_bytes, stdl, cond_true, cond_false, Nat.reduceEqDiff, Nat.reduceAdd, Nat.reduceMul, Nat.reduceSub, Nat.reduceLT, Int.reduceEq, Int.reduceLT, Int.reduceLE, Int.reduceNeg, Nat.reduceLeDiff, if_true, if_false, ↓reduceIte, forall_const, implies_true, reduceCtorEq, forall_eq_or_imp, forall_eq, ne_eq, ← hl, dat]
    refine ⟨fun hlt => ⟨by kernel_rfl, fun h0 => ?_, fun h0 => V_backI ⟨i + 1, by omega, ?_⟩ (by show _ - (i + 1) < _; omega) (weakI ?_)⟩, fun hlt => ?_⟩
    · rw [hx, eq_drop default hl hlt, acl_beq]; grind
    · rw [hx, eq_drop default hl hlt, acl_beq]; grind
    · simp (maxSteps := 2000000) (contextual := true) only [↓ctl, evl, val, valP, own, tys, Try.ntmps100, Try.results100, ↓V_convert, ↓V_bytes, stdl, cond_true, cond_false, Nat.reduceEqDiff, Nat.reduceAdd, Nat.reduceMul, Nat.reduceSub, Nat.reduceLT, Int.reduceEq, Int.reduceLT, Int.reduceLE, Int.reduceNeg, Nat.reduceLeDiff, if_true, if_false, ↓reduceIte, forall_const, implies_true, reduceCtorEq, forall_eq_or_imp, forall_eq, ne_eq]
      rw [wrap_id (by omega) (by omega)]
      rfl
    · rw [hx, drop_end _ _ hlt, drop_end _ _ (by omega)]; rfl


end Go.Proofs.Ytobnbajakenbeaa


/- Contracts: the same inode. -/
set_option linter.all false
set_option maxRecDepth 10000
namespace Go.Proofs.Ytobnbajakenbeaa
open Go Go.Eng

/-- The lengths are within bounds. -/
def Inode.fits (n : Inode) : Prop := n.blocks.length ≤ 1099511627776 ∧ n.acl.length ≤ 1099511627776 ∧ n.dflt.length ≤ 1099511627776
theorem inode_beq (a b : Inode) : (a == b) = (a.kind == b.kind && a.mode == b.mode && a.uid == b.uid && a.gid == b.gid && a.links == b.links && a.size == b.size && a.tick == b.tick && a.blocks == b.blocks && a.acl == b.acl && a.dflt == b.dflt) := by
  cases a; cases b; grind
theorem d_SameInode (a b : Inode) (ha : a.fits) (hb : b.fits) : Gives Go.Proofs.Try.prog 76 [inodeAV a, inodeAV b] (.bool (a == b)) := by
  refine gives_of_V mixed Go.Proofs.Try.call76 Go.Proofs.Try.func76 rfl (by rw [Go.Proofs.Try.ntmps76]; simp) ?_
  simp (maxSteps := 2000000) only [↓ctl, evl, val, valP, own, tys, Try.ntmps76, Try.results76, ↓V_convert, ↓V_bytes, stdl, cond_true, cond_false, Nat.reduceEqDiff, Nat.reduceAdd, Nat.reduceMul, Nat.reduceSub, Nat.reduceLT, Int.reduceEq, Int.reduceLT, Int.reduceLE, Int.reduceNeg, Nat.reduceLeDiff, if_true, if_false, ↓reduceIte, forall_const, implies_true, reduceCtorEq, forall_eq_or_imp, forall_eq, ne_eq, inodeAV]
  refine ⟨fun h => ?_, fun h => ?_⟩
  · rw [inode_beq]; grind
  refine V_callF mixed (cap := []) (fun _ => d_l02Same a.blocks b.blocks ha.1 hb.1) (by simp (maxSteps := 2000000) (contextual := true) only [↓ctl, evl, val, valP, own, tys, Try.ntmps76, Try.results76, ↓V_convert, ↓V_bytes, stdl, cond_true, cond_false, Nat.reduceEqDiff, Nat.reduceAdd, Nat.reduceMul, Nat.reduceSub, Nat.reduceLT, Int.reduceEq, Int.reduceLT, Int.reduceLE, Int.reduceNeg, Nat.reduceLeDiff, if_true, if_false, ↓reduceIte, forall_const, implies_true, reduceCtorEq, forall_eq_or_imp, forall_eq, ne_eq]) (by simp (maxSteps := 2000000) (contextual := true) only [↓ctl, evl, val, valP, own, tys, Try.ntmps76, Try.results76, ↓V_convert, ↓V_bytes, stdl, cond_true, cond_false, Nat.reduceEqDiff, Nat.reduceAdd, Nat.reduceMul, Nat.reduceSub, Nat.reduceLT, Int.reduceEq, Int.reduceLT, Int.reduceLE, Int.reduceNeg, Nat.reduceLeDiff, if_true, if_false, ↓reduceIte, forall_const, implies_true, reduceCtorEq, forall_eq_or_imp, forall_eq, ne_eq]) (by simp (maxSteps := 2000000) (contextual := true) only [↓ctl, evl, val, valP, own, tys, Try.ntmps76, Try.results76, ↓V_convert, ↓V_bytes, stdl, cond_true, cond_false, Nat.reduceEqDiff, Nat.reduceAdd, Nat.reduceMul, Nat.reduceSub, Nat.reduceLT, Int.reduceEq, Int.reduceLT, Int.reduceLE, Int.reduceNeg, Nat.reduceLeDiff, if_true, if_false, ↓reduceIte, forall_const, implies_true, reduceCtorEq, forall_eq_or_imp, forall_eq, ne_eq]) trivial ?_
  simp (maxSteps := 2000000) only [↓ctl, evl, val, valP, own, tys, Try.ntmps76, Try.results76, ↓V_convert, ↓V_bytes, stdl, cond_true, cond_false, Nat.reduceEqDiff, Nat.reduceAdd, Nat.reduceMul, Nat.reduceSub, Nat.reduceLT, Int.reduceEq, Int.reduceLT, Int.reduceLE, Int.reduceNeg, Nat.reduceLeDiff, if_true, if_false, ↓reduceIte, forall_const, implies_true, reduceCtorEq, forall_eq_or_imp, forall_eq, ne_eq]
  refine V_callF mixed (cap := []) (fun _ => d_l05Same a.acl b.acl ha.2.1 hb.2.1) (by simp (maxSteps := 2000000) (contextual := true) only [↓ctl, evl, val, valP, own, tys, Try.ntmps76, Try.results76, ↓V_convert, ↓V_bytes, stdl, cond_true, cond_false, Nat.reduceEqDiff, Nat.reduceAdd, Nat.reduceMul, Nat.reduceSub, Nat.reduceLT, Int.reduceEq, Int.reduceLT, Int.reduceLE, Int.reduceNeg, Nat.reduceLeDiff, if_true, if_false, ↓reduceIte, forall_const, implies_true, reduceCtorEq, forall_eq_or_imp, forall_eq, ne_eq]) (by simp (maxSteps := 2000000) (contextual := true) only [↓ctl, evl, val, valP, own, tys, Try.ntmps76, Try.results76, ↓V_convert, ↓V_bytes, stdl, cond_true, cond_false, Nat.reduceEqDiff, Nat.reduceAdd, Nat.reduceMul, Nat.reduceSub, Nat.reduceLT, Int.reduceEq, Int.reduceLT, Int.reduceLE, Int.reduceNeg, Nat.reduceLeDiff, if_true, if_false, ↓reduceIte, forall_const, implies_true, reduceCtorEq, forall_eq_or_imp, forall_eq, ne_eq]) (by simp (maxSteps := 2000000) (contextual := true) only [↓ctl, evl, val, valP, own, tys, Try.ntmps76, Try.results76, ↓V_convert, ↓V_bytes, stdl, cond_true, cond_false, Nat.reduceEqDiff, Nat.reduceAdd, Nat.reduceMul, Nat.reduceSub, Nat.reduceLT, Int.reduceEq, Int.reduceLT, Int.reduceLE, Int.reduceNeg, Nat.reduceLeDiff, if_true, if_false, ↓reduceIte, forall_const, implies_true, reduceCtorEq, forall_eq_or_imp, forall_eq, ne_eq]) trivial ?_
  simp (maxSteps := 2000000) only [↓ctl, evl, val, valP, own, tys, Try.ntmps76, Try.results76, ↓V_convert, ↓V_bytes, stdl, cond_true, cond_false, Nat.reduceEqDiff, Nat.reduceAdd, Nat.reduceMul, Nat.reduceSub, Nat.reduceLT, Int.reduceEq, Int.reduceLT, Int.reduceLE, Int.reduceNeg, Nat.reduceLeDiff, if_true, if_false, ↓reduceIte, forall_const, implies_true, reduceCtorEq, forall_eq_or_imp, forall_eq, ne_eq]
  refine V_callF mixed (cap := []) (fun _ => d_l05Same a.dflt b.dflt ha.2.2 hb.2.2) (by simp (maxSteps := 2000000) (contextual := true) only [↓ctl, evl, val, valP, own, tys, Try.ntmps76, Try.results76, ↓V_convert, ↓V_bytes, stdl, cond_true, cond_false, Nat.reduceEqDiff, Nat.reduceAdd, Nat.reduceMul, Nat.reduceSub, Nat.reduceLT, Int.reduceEq, Int.reduceLT, Int.reduceLE, Int.reduceNeg, Nat.reduceLeDiff, if_true, if_false, ↓reduceIte, forall_const, implies_true, reduceCtorEq, forall_eq_or_imp, forall_eq, ne_eq]) (by simp (maxSteps := 2000000) (contextual := true) only [↓ctl, evl, val, valP, own, tys, Try.ntmps76, Try.results76, ↓V_convert, ↓V_bytes, stdl, cond_true, cond_false, Nat.reduceEqDiff, Nat.reduceAdd, Nat.reduceMul, Nat.reduceSub, Nat.reduceLT, Int.reduceEq, Int.reduceLT, Int.reduceLE, Int.reduceNeg, Nat.reduceLeDiff, if_true, if_false, ↓reduceIte, forall_const, implies_true, reduceCtorEq, forall_eq_or_imp, forall_eq, ne_eq]) (by simp (maxSteps := 2000000) (contextual := true) only [↓ctl, evl, val, valP, own, tys, Try.ntmps76, Try.results76, ↓V_convert, ↓V_bytes, stdl, cond_true, cond_false, Nat.reduceEqDiff, Nat.reduceAdd, Nat.reduceMul, Nat.reduceSub, Nat.reduceLT, Int.reduceEq, Int.reduceLT, Int.reduceLE, Int.reduceNeg, Nat.reduceLeDiff, if_true, if_false, ↓reduceIte, forall_const, implies_true, reduceCtorEq, forall_eq_or_imp, forall_eq, ne_eq]) trivial ?_
  simp (maxSteps := 2000000) only [↓ctl, evl, val, valP, own, tys, Try.ntmps76, Try.results76, ↓V_convert, ↓V_bytes, stdl, cond_true, cond_false, Nat.reduceEqDiff, Nat.reduceAdd, Nat.reduceMul, Nat.reduceSub, Nat.reduceLT, Int.reduceEq, Int.reduceLT, Int.reduceLE, Int.reduceNeg, Nat.reduceLeDiff, if_true, if_false, ↓reduceIte, forall_const, implies_true, reduceCtorEq, forall_eq_or_imp, forall_eq, ne_eq]
  rw [inode_beq]; grind
theorem c_SameInode (a b : Inode) (ha : a.fits) (hb : b.fits) : Gives Go.Proofs.Try.prog 86 [inodeAV a, inodeAV b] (.bool (a == b)) := by
  refine gives_of_V mixed Go.Proofs.Try.call86 Go.Proofs.Try.func86 rfl (by rw [Go.Proofs.Try.ntmps86]; simp) ?_
  simp only [List.append_eq, List.cons_append, List.nil_append]
  simp (maxSteps := 2000000) only [↓ctl, evl, val, valP, own, tys, Try.ntmps86, Try.results86, ↓V_convert, ↓V_bytes, stdl, cond_true, cond_false, Nat.reduceEqDiff, Nat.reduceAdd, Nat.reduceMul, Nat.reduceSub, Nat.reduceLT, Int.reduceEq, Int.reduceLT, Int.reduceLE, Int.reduceNeg, Nat.reduceLeDiff, if_true, if_false, ↓reduceIte, forall_const, implies_true, reduceCtorEq, forall_eq_or_imp, forall_eq, ne_eq, inodeAV]
  refine V_callF mixed (cap := []) (fun _ => c_EqualI a.blocks b.blocks ha.1 hb.1) (by simp (maxSteps := 2000000) (contextual := true) only [↓ctl, evl, val, valP, own, tys, Try.ntmps86, Try.results86, ↓V_convert, ↓V_bytes, stdl, cond_true, cond_false, Nat.reduceEqDiff, Nat.reduceAdd, Nat.reduceMul, Nat.reduceSub, Nat.reduceLT, Int.reduceEq, Int.reduceLT, Int.reduceLE, Int.reduceNeg, Nat.reduceLeDiff, if_true, if_false, ↓reduceIte, forall_const, implies_true, reduceCtorEq, forall_eq_or_imp, forall_eq, ne_eq]) (by simp (maxSteps := 2000000) (contextual := true) only [↓ctl, evl, val, valP, own, tys, Try.ntmps86, Try.results86, ↓V_convert, ↓V_bytes, stdl, cond_true, cond_false, Nat.reduceEqDiff, Nat.reduceAdd, Nat.reduceMul, Nat.reduceSub, Nat.reduceLT, Int.reduceEq, Int.reduceLT, Int.reduceLE, Int.reduceNeg, Nat.reduceLeDiff, if_true, if_false, ↓reduceIte, forall_const, implies_true, reduceCtorEq, forall_eq_or_imp, forall_eq, ne_eq]) (by simp (maxSteps := 2000000) (contextual := true) only [↓ctl, evl, val, valP, own, tys, Try.ntmps86, Try.results86, ↓V_convert, ↓V_bytes, stdl, cond_true, cond_false, Nat.reduceEqDiff, Nat.reduceAdd, Nat.reduceMul, Nat.reduceSub, Nat.reduceLT, Int.reduceEq, Int.reduceLT, Int.reduceLE, Int.reduceNeg, Nat.reduceLeDiff, if_true, if_false, ↓reduceIte, forall_const, implies_true, reduceCtorEq, forall_eq_or_imp, forall_eq, ne_eq]) trivial ?_
  simp (maxSteps := 2000000) only [↓ctl, evl, val, valP, own, tys, Try.ntmps86, Try.results86, ↓V_convert, ↓V_bytes, stdl, cond_true, cond_false, Nat.reduceEqDiff, Nat.reduceAdd, Nat.reduceMul, Nat.reduceSub, Nat.reduceLT, Int.reduceEq, Int.reduceLT, Int.reduceLE, Int.reduceNeg, Nat.reduceLeDiff, if_true, if_false, ↓reduceIte, forall_const, implies_true, reduceCtorEq, forall_eq_or_imp, forall_eq, ne_eq]
  refine V_callF mixed (cap := []) (fun _ => c_EqualA a.acl b.acl ha.2.1 hb.2.1) (by simp (maxSteps := 2000000) (contextual := true) only [↓ctl, evl, val, valP, own, tys, Try.ntmps86, Try.results86, ↓V_convert, ↓V_bytes, stdl, cond_true, cond_false, Nat.reduceEqDiff, Nat.reduceAdd, Nat.reduceMul, Nat.reduceSub, Nat.reduceLT, Int.reduceEq, Int.reduceLT, Int.reduceLE, Int.reduceNeg, Nat.reduceLeDiff, if_true, if_false, ↓reduceIte, forall_const, implies_true, reduceCtorEq, forall_eq_or_imp, forall_eq, ne_eq]) (by simp (maxSteps := 2000000) (contextual := true) only [↓ctl, evl, val, valP, own, tys, Try.ntmps86, Try.results86, ↓V_convert, ↓V_bytes, stdl, cond_true, cond_false, Nat.reduceEqDiff, Nat.reduceAdd, Nat.reduceMul, Nat.reduceSub, Nat.reduceLT, Int.reduceEq, Int.reduceLT, Int.reduceLE, Int.reduceNeg, Nat.reduceLeDiff, if_true, if_false, ↓reduceIte, forall_const, implies_true, reduceCtorEq, forall_eq_or_imp, forall_eq, ne_eq]) (by simp (maxSteps := 2000000) (contextual := true) only [↓ctl, evl, val, valP, own, tys, Try.ntmps86, Try.results86, ↓V_convert, ↓V_bytes, stdl, cond_true, cond_false, Nat.reduceEqDiff, Nat.reduceAdd, Nat.reduceMul, Nat.reduceSub, Nat.reduceLT, Int.reduceEq, Int.reduceLT, Int.reduceLE, Int.reduceNeg, Nat.reduceLeDiff, if_true, if_false, ↓reduceIte, forall_const, implies_true, reduceCtorEq, forall_eq_or_imp, forall_eq, ne_eq]) trivial ?_
  simp (maxSteps := 2000000) only [↓ctl, evl, val, valP, own, tys, Try.ntmps86, Try.results86, ↓V_convert, ↓V_bytes, stdl, cond_true, cond_false, Nat.reduceEqDiff, Nat.reduceAdd, Nat.reduceMul, Nat.reduceSub, Nat.reduceLT, Int.reduceEq, Int.reduceLT, Int.reduceLE, Int.reduceNeg, Nat.reduceLeDiff, if_true, if_false, ↓reduceIte, forall_const, implies_true, reduceCtorEq, forall_eq_or_imp, forall_eq, ne_eq]
  refine V_callF mixed (cap := []) (fun _ => c_EqualA a.dflt b.dflt ha.2.2 hb.2.2) (by simp (maxSteps := 2000000) (contextual := true) only [↓ctl, evl, val, valP, own, tys, Try.ntmps86, Try.results86, ↓V_convert, ↓V_bytes, stdl, cond_true, cond_false, Nat.reduceEqDiff, Nat.reduceAdd, Nat.reduceMul, Nat.reduceSub, Nat.reduceLT, Int.reduceEq, Int.reduceLT, Int.reduceLE, Int.reduceNeg, Nat.reduceLeDiff, if_true, if_false, ↓reduceIte, forall_const, implies_true, reduceCtorEq, forall_eq_or_imp, forall_eq, ne_eq]) (by simp (maxSteps := 2000000) (contextual := true) only [↓ctl, evl, val, valP, own, tys, Try.ntmps86, Try.results86, ↓V_convert, ↓V_bytes, stdl, cond_true, cond_false, Nat.reduceEqDiff, Nat.reduceAdd, Nat.reduceMul, Nat.reduceSub, Nat.reduceLT, Int.reduceEq, Int.reduceLT, Int.reduceLE, Int.reduceNeg, Nat.reduceLeDiff, if_true, if_false, ↓reduceIte, forall_const, implies_true, reduceCtorEq, forall_eq_or_imp, forall_eq, ne_eq]) (by simp (maxSteps := 2000000) (contextual := true) only [↓ctl, evl, val, valP, own, tys, Try.ntmps86, Try.results86, ↓V_convert, ↓V_bytes, stdl, cond_true, cond_false, Nat.reduceEqDiff, Nat.reduceAdd, Nat.reduceMul, Nat.reduceSub, Nat.reduceLT, Int.reduceEq, Int.reduceLT, Int.reduceLE, Int.reduceNeg, Nat.reduceLeDiff, if_true, if_false, ↓reduceIte, forall_const, implies_true, reduceCtorEq, forall_eq_or_imp, forall_eq, ne_eq]) trivial ?_
  simp (maxSteps := 2000000) only [↓ctl, evl, val, valP, own, tys, Try.ntmps86, Try.results86, ↓V_convert, ↓V_bytes, stdl, cond_true, cond_false, Nat.reduceEqDiff, Nat.reduceAdd, Nat.reduceMul, Nat.reduceSub, Nat.reduceLT, Int.reduceEq, Int.reduceLT, Int.reduceLE, Int.reduceNeg, Nat.reduceLeDiff, if_true, if_false, ↓reduceIte, forall_const, implies_true, reduceCtorEq, forall_eq_or_imp, forall_eq, ne_eq]
  rw [inode_beq]
end Go.Proofs.Ytobnbajakenbeaa


/- Contracts: access control lists, the reference's test. -/
set_option linter.all false
set_option maxRecDepth 10000
namespace Go.Proofs.Ytobnbajakenbeaa
open Go Go.Eng

def entryOk (e : Acl) : Bool := inR e.perm 0 7 && (if e.tag = 1 ∨ e.tag = 2 then inR e.id 0 3 else if e.tag = 3 then e.id == 0 else false)
theorem d_l05Entry (e : Acl) : Gives Go.Proofs.Try.prog 101 [aclAV e] (.bool (entryOk e)) := by
  refine gives_of_V mixed Go.Proofs.Try.call101 Go.Proofs.Try.func101 rfl (by rw [Go.Proofs.Try.ntmps101]; simp) ?_
  simp (maxSteps := 2000000) only [↓ctl, evl, val, valP, own, tys, Try.ntmps101, Try.results101, ↓V_convert, ↓V_bytes, stdl, cond_true, cond_false, Nat.reduceEqDiff, Nat.reduceAdd, Nat.reduceMul, Nat.reduceSub, Nat.reduceLT, Int.reduceEq, Int.reduceLT, Int.reduceLE, Int.reduceNeg, Nat.reduceLeDiff, if_true, if_false, ↓reduceIte, forall_const, implies_true, reduceCtorEq, forall_eq_or_imp, forall_eq, ne_eq, aclAV]
  refine V_callF mixed (cap := []) (fun _ => d_l01In e.perm 0 7) (by simp (maxSteps := 2000000) (contextual := true) only [↓ctl, evl, val, valP, own, tys, Try.ntmps101, Try.results101, ↓V_convert, ↓V_bytes, stdl, cond_true, cond_false, Nat.reduceEqDiff, Nat.reduceAdd, Nat.reduceMul, Nat.reduceSub, Nat.reduceLT, Int.reduceEq, Int.reduceLT, Int.reduceLE, Int.reduceNeg, Nat.reduceLeDiff, if_true, if_false, ↓reduceIte, forall_const, implies_true, reduceCtorEq, forall_eq_or_imp, forall_eq, ne_eq]) (by simp (maxSteps := 2000000) (contextual := true) only [↓ctl, evl, val, valP, own, tys, Try.ntmps101, Try.results101, ↓V_convert, ↓V_bytes, stdl, cond_true, cond_false, Nat.reduceEqDiff, Nat.reduceAdd, Nat.reduceMul, Nat.reduceSub, Nat.reduceLT, Int.reduceEq, Int.reduceLT, Int.reduceLE, Int.reduceNeg, Nat.reduceLeDiff, if_true, if_false, ↓reduceIte, forall_const, implies_true, reduceCtorEq, forall_eq_or_imp, forall_eq, ne_eq]) (by simp (maxSteps := 2000000) (contextual := true) only [↓ctl, evl, val, valP, own, tys, Try.ntmps101, Try.results101, ↓V_convert, ↓V_bytes, stdl, cond_true, cond_false, Nat.reduceEqDiff, Nat.reduceAdd, Nat.reduceMul, Nat.reduceSub, Nat.reduceLT, Int.reduceEq, Int.reduceLT, Int.reduceLE, Int.reduceNeg, Nat.reduceLeDiff, if_true, if_false, ↓reduceIte, forall_const, implies_true, reduceCtorEq, forall_eq_or_imp, forall_eq, ne_eq]) trivial ?_
  simp (maxSteps := 2000000) (contextual := true) only [↓ctl, evl, val, valP, own, tys, Try.ntmps101, Try.results101, ↓V_convert, ↓V_bytes, stdl, cond_true, cond_false, Nat.reduceEqDiff, Nat.reduceAdd, Nat.reduceMul, Nat.reduceSub, Nat.reduceLT, Int.reduceEq, Int.reduceLT, Int.reduceLE, Int.reduceNeg, Nat.reduceLeDiff, if_true, if_false, ↓reduceIte, forall_const, implies_true, reduceCtorEq, forall_eq_or_imp, forall_eq, ne_eq]
  refine ⟨fun h => by simp [entryOk, h], fun h => ⟨fun h1 => ?_, fun h1 => ⟨fun h2 => ?_, fun h2 => ⟨fun h3 => ?_, fun h3 => ?_⟩⟩⟩⟩
  · refine V_callF mixed (cap := []) (fun _ => d_l01In e.id 0 3) (by simp (maxSteps := 2000000) (contextual := true) only [↓ctl, evl, val, valP, own, tys, Try.ntmps101, Try.results101, ↓V_convert, ↓V_bytes, stdl, cond_true, cond_false, Nat.reduceEqDiff, Nat.reduceAdd, Nat.reduceMul, Nat.reduceSub, Nat.reduceLT, Int.reduceEq, Int.reduceLT, Int.reduceLE, Int.reduceNeg, Nat.reduceLeDiff, if_true, if_false, ↓reduceIte, forall_const, implies_true, reduceCtorEq, forall_eq_or_imp, forall_eq, ne_eq]) (by simp (maxSteps := 2000000) (contextual := true) only [↓ctl, evl, val, valP, own, tys, Try.ntmps101, Try.results101, ↓V_convert, ↓V_bytes, stdl, cond_true, cond_false, Nat.reduceEqDiff, Nat.reduceAdd, Nat.reduceMul, Nat.reduceSub, Nat.reduceLT, Int.reduceEq, Int.reduceLT, Int.reduceLE, Int.reduceNeg, Nat.reduceLeDiff, if_true, if_false, ↓reduceIte, forall_const, implies_true, reduceCtorEq, forall_eq_or_imp, forall_eq, ne_eq]) (by simp (maxSteps := 2000000) (contextual := true) only [↓ctl, evl, val, valP, own, tys, Try.ntmps101, Try.results101, ↓V_convert, ↓V_bytes, stdl, cond_true, cond_false, Nat.reduceEqDiff, Nat.reduceAdd, Nat.reduceMul, Nat.reduceSub, Nat.reduceLT, Int.reduceEq, Int.reduceLT, Int.reduceLE, Int.reduceNeg, Nat.reduceLeDiff, if_true, if_false, ↓reduceIte, forall_const, implies_true, reduceCtorEq, forall_eq_or_imp, forall_eq, ne_eq]) trivial ?_
    simp (maxSteps := 2000000) only [↓ctl, evl, val, valP, own, tys, Try.ntmps101, Try.results101, ↓V_convert, ↓V_bytes, stdl, cond_true, cond_false, Nat.reduceEqDiff, Nat.reduceAdd, Nat.reduceMul, Nat.reduceSub, Nat.reduceLT, Int.reduceEq, Int.reduceLT, Int.reduceLE, Int.reduceNeg, Nat.reduceLeDiff, if_true, if_false, ↓reduceIte, forall_const, implies_true, reduceCtorEq, forall_eq_or_imp, forall_eq, ne_eq]
    simp [entryOk, h, h1]
  · refine V_callF mixed (cap := []) (fun _ => d_l01In e.id 0 3) (by simp (maxSteps := 2000000) (contextual := true) only [↓ctl, evl, val, valP, own, tys, Try.ntmps101, Try.results101, ↓V_convert, ↓V_bytes, stdl, cond_true, cond_false, Nat.reduceEqDiff, Nat.reduceAdd, Nat.reduceMul, Nat.reduceSub, Nat.reduceLT, Int.reduceEq, Int.reduceLT, Int.reduceLE, Int.reduceNeg, Nat.reduceLeDiff, if_true, if_false, ↓reduceIte, forall_const, implies_true, reduceCtorEq, forall_eq_or_imp, forall_eq, ne_eq]) (by simp (maxSteps := 2000000) (contextual := true) only [↓ctl, evl, val, valP, own, tys, Try.ntmps101, Try.results101, ↓V_convert, ↓V_bytes, stdl, cond_true, cond_false, Nat.reduceEqDiff, Nat.reduceAdd, Nat.reduceMul, Nat.reduceSub, Nat.reduceLT, Int.reduceEq, Int.reduceLT, Int.reduceLE, Int.reduceNeg, Nat.reduceLeDiff, if_true, if_false, ↓reduceIte, forall_const, implies_true, reduceCtorEq, forall_eq_or_imp, forall_eq, ne_eq]) (by simp (maxSteps := 2000000) (contextual := true) only [↓ctl, evl, val, valP, own, tys, Try.ntmps101, Try.results101, ↓V_convert, ↓V_bytes, stdl, cond_true, cond_false, Nat.reduceEqDiff, Nat.reduceAdd, Nat.reduceMul, Nat.reduceSub, Nat.reduceLT, Int.reduceEq, Int.reduceLT, Int.reduceLE, Int.reduceNeg, Nat.reduceLeDiff, if_true, if_false, ↓reduceIte, forall_const, implies_true, reduceCtorEq, forall_eq_or_imp, forall_eq, ne_eq]) trivial ?_
    simp (maxSteps := 2000000) only [↓ctl, evl, val, valP, own, tys, Try.ntmps101, Try.results101, ↓V_convert, ↓V_bytes, stdl, cond_true, cond_false, Nat.reduceEqDiff, Nat.reduceAdd, Nat.reduceMul, Nat.reduceSub, Nat.reduceLT, Int.reduceEq, Int.reduceLT, Int.reduceLE, Int.reduceNeg, Nat.reduceLeDiff, if_true, if_false, ↓reduceIte, forall_const, implies_true, reduceCtorEq, forall_eq_or_imp, forall_eq, ne_eq]
    simp [entryOk, h, h2]
  · simp [entryOk, h, h3]
  · simp [entryOk, h, h1, h2, h3]
def aclLt (p e : Acl) : Bool := decide (p.tag < e.tag ∨ p.tag = e.tag ∧ p.id < e.id)
def aclFrom : Option Acl → List Acl → Bool
  | _, [] => true
  | none, e :: r => entryOk e && aclFrom (some e) r
  | some p, e :: r => entryOk e && aclLt p e && aclFrom (some e) r
def isAcl (l : List Acl) : Bool := aclFrom none l && (l.length == 0 || (decide (l.length ≤ 6) && (l.getD (l.length - 1) default).tag == 3))
def prevA (l : List Acl) (i : Nat) : Option Acl := if i = 0 then none else some (l.getD (i - 1) default)
theorem aclFrom_step {l : List Acl} {i : Nat} (h : i < l.length) : aclFrom (prevA l i) (l.drop i) = (entryOk (l.getD i default) && (decide (i = 0) || aclLt (l.getD (i - 1) default) (l.getD i default)) && aclFrom (prevA l (i + 1)) (l.drop (i + 1))) := by
  rw [drop_getD default h]
  have e : prevA l (i + 1) = some (l.getD i default) := by simp [prevA]
  rw [e]
  by_cases h0 : i = 0
  · subst h0; simp [prevA, aclFrom]
  · simp [prevA, aclFrom, h0]
theorem aclFrom_end {l : List Acl} {i : Nat} (h : ¬ i < l.length) : aclFrom (prevA l i) (l.drop i) = true := by
  rw [drop_end _ _ h]; cases prevA l i <;> rfl
theorem d_IsAcl (l : List Acl) (hl : l.length ≤ 1099511627776) : Gives Go.Proofs.Try.prog 80 [.rd 3 (l.map aclRow)] (.bool (isAcl l)) := by
  refine gives_of_V mixed Go.Proofs.Try.call80 Go.Proofs.Try.func80 rfl (by rw [Go.Proofs.Try.ntmps80]; simp) ?_
  simp (maxSteps := 2000000) (contextual := true) only [↓ctl, evl, val, valP, own, tys, Try.ntmps80, Try.results80, ↓V_convert, ↓V_bytes, stdl, cond_true, cond_false, Nat.reduceEqDiff, Nat.reduceAdd, Nat.reduceMul, Nat.reduceSub, Nat.reduceLT, Int.reduceEq, Int.reduceLT, Int.reduceLE, Int.reduceNeg, Nat.reduceLeDiff, if_true, if_false, ↓reduceIte, forall_const, implies_true, reduceCtorEq, forall_eq_or_imp, forall_eq, ne_eq]
  refine V_loopI mixed (ι := {i : Nat // i ≤ l.length ∧ aclFrom none l = aclFrom (prevA l i) (l.drop i)}) (fun i => ⟨[(0, true, .rd 3 (l.map aclRow)), (6, true, .rd 3 (l.map aclRow)), (7, true, I l.length), (8, true, I i.1)], [], 0, 71⟩) (fun i => l.length - i.1)  ⟨0, by simp [prevA]⟩ ?_ ?_ ?_
  · refine weakI ?_
    simp (maxSteps := 2000000) (contextual := true) only [↓ctl, evl, val, valP, own, tys, Try.ntmps80, Try.results80, ↓V_convert, ↓V_bytes, stdl, cond_true, cond_false, Nat.reduceEqDiff, Nat.reduceAdd, Nat.reduceMul, Nat.reduceSub, Nat.reduceLT, Int.reduceEq, Int.reduceLT, Int.reduceLE, Int.reduceNeg, Nat.reduceLeDiff, if_true, if_false, ↓reduceIte, forall_const, implies_true, reduceCtorEq, forall_eq_or_imp, forall_eq, ne_eq]
    rfl
  · trivial
  · rintro ⟨i, hi, hx⟩
    by_cases hlt : i < l.length
    · have e1 : IntKind.i64.wrap ((i : Int) - 1) = i - 1 := wrap_id (by omega) (by omega)
      have e2 : ((i : Int) - 1).toNat = i - 1 := by omega
      have e3 : i - 1 < l.length := by omega
      simp (maxSteps := 2000000) only [↓ctl, evl, val, valP, own, tys, Try.ntmps80, Try.results80, ↓V_convert, ↓V_bytes, stdl, cond_true, cond_false, Nat.reduceEqDiff, Nat.reduceAdd, Nat.reduceMul, Nat.reduceSub, Nat.reduceLT, Int.reduceEq, Int.reduceLT, Int.reduceLE, Int.reduceNeg, Nat.reduceLeDiff, if_true, if_false, ↓reduceIte, forall_const, implies_true, reduceCtorEq, forall_eq_or_imp, forall_eq, ne_eq, dat, hlt]
      refine ⟨by kernel_rfl, ?_⟩
      refine V_callF mixed (cap := []) (fun _ => d_l05Entry (l.getD i default)) ?_ ?_ ?_ trivial ?_
      · simp (maxSteps := 2000000) (contextual := true) only [↓ctl, evl, val, valP, own, tys, Try.ntmps80, Try.results80, ↓V_convert, ↓V_bytes, stdl, cond_true, cond_false, Nat.reduceEqDiff, Nat.reduceAdd, Nat.reduceMul, Nat.reduceSub, Nat.reduceLT, Int.reduceEq, Int.reduceLT, Int.reduceLE, Int.reduceNeg, Nat.reduceLeDiff, if_true, if_false, ↓reduceIte, forall_const, implies_true, reduceCtorEq, forall_eq_or_imp, forall_eq, ne_eq, aclAV]
      · simp (maxSteps := 2000000) (contextual := true) only [↓ctl, evl, val, valP, own, tys, Try.ntmps80, Try.results80, ↓V_convert, ↓V_bytes, stdl, cond_true, cond_false, Nat.reduceEqDiff, Nat.reduceAdd, Nat.reduceMul, Nat.reduceSub, Nat.reduceLT, Int.reduceEq, Int.reduceLT, Int.reduceLE, Int.reduceNeg, Nat.reduceLeDiff, if_true, if_false, ↓reduceIte, forall_const, implies_true, reduceCtorEq, forall_eq_or_imp, forall_eq, ne_eq]
      · simp (maxSteps := 2000000) (contextual := true) only [↓ctl, evl, val, valP, own, tys, Try.ntmps80, Try.results80, ↓V_convert, ↓V_bytes, stdl, cond_true, cond_false, Nat.reduceEqDiff, Nat.reduceAdd, Nat.reduceMul, Nat.reduceSub, Nat.reduceLT, Int.reduceEq, Int.reduceLT, Int.reduceLE, Int.reduceNeg, Nat.reduceLeDiff, if_true, if_false, ↓reduceIte, forall_const, implies_true, reduceCtorEq, forall_eq_or_imp, forall_eq, ne_eq]
      simp (maxSteps := 2000000) only [↓ctl, evl, val, valP, own, tys, Try.ntmps80, Try.results80, ↓V_convert, ↓V_bytes, stdl, cond_true, cond_false, Nat.reduceEqDiff, Nat.reduceAdd, Nat.reduceMul, Nat.reduceSub, Nat.reduceLT, Int.reduceEq, Int.reduceLT, Int.reduceLE, Int.reduceNeg, Nat.reduceLeDiff, if_true, if_false, ↓reduceIte, forall_const, implies_true, reduceCtorEq, forall_eq_or_imp, forall_eq, ne_eq, dat, hlt, e1, e2, e3]
      refine ⟨fun h => ⟨h, by omega, by omega⟩, fun h => ⟨h, by omega, by omega⟩, fun h => ⟨h, by omega, by omega⟩, by grind, by grind, by grind, fun h => ?_, fun h => V_backI ⟨i + 1, by omega, ?_⟩ (by show _ - (i + 1) < _; omega) (weakI ?_)⟩
      · have := aclFrom_step hlt
        unfold isAcl aclLt at *
        grind
      · have := aclFrom_step hlt
        unfold aclLt at this
        grind
      · simp (maxSteps := 2000000) only [↓ctl, evl, val, valP, own, tys, Try.ntmps80, Try.results80, ↓V_convert, ↓V_bytes, stdl, cond_true, cond_false, Nat.reduceEqDiff, Nat.reduceAdd, Nat.reduceMul, Nat.reduceSub, Nat.reduceLT, Int.reduceEq, Int.reduceLT, Int.reduceLE, Int.reduceNeg, Nat.reduceLeDiff, if_true, if_false, ↓reduceIte, forall_const, implies_true, reduceCtorEq, forall_eq_or_imp, forall_eq, ne_eq]
        rw [wrap_id (by omega) (by omega)]
        rfl
    · have hn : i = l.length := by omega
      have hx' := hx.trans (aclFrom_end hlt)
      by_cases h0 : l.length = 0
      · simp (maxSteps := 2000000) only [↓ctl, evl, val, valP, own, tys, Try.ntmps80, Try.results80, ↓V_convert, ↓V_bytes, stdl, cond_true, cond_false, Nat.reduceEqDiff, Nat.reduceAdd, Nat.reduceMul, Nat.reduceSub, Nat.reduceLT, Int.reduceEq, Int.reduceLT, Int.reduceLE, Int.reduceNeg, Nat.reduceLeDiff, if_true, if_false, ↓reduceIte, forall_const, implies_true, reduceCtorEq, forall_eq_or_imp, forall_eq, ne_eq, hlt, h0]
        simp [isAcl, hx', h0]
      have e1 : IntKind.i64.wrap ((l.length : Int) - 1) = l.length - 1 := wrap_id (by omega) (by omega)
      have e2 : ((l.length : Int) - 1).toNat = l.length - 1 := by omega
      have e3 : l.length - 1 < l.length := by omega
      simp (maxSteps := 2000000) only [↓ctl, evl, val, valP, own, tys, Try.ntmps80, Try.results80, ↓V_convert, ↓V_bytes, stdl, cond_true, cond_false, Nat.reduceEqDiff, Nat.reduceAdd, Nat.reduceMul, Nat.reduceSub, Nat.reduceLT, Int.reduceEq, Int.reduceLT, Int.reduceLE, Int.reduceNeg, Nat.reduceLeDiff, if_true, if_false, ↓reduceIte, forall_const, implies_true, reduceCtorEq, forall_eq_or_imp, forall_eq, ne_eq, dat, hlt, e1, e2, e3]
      refine ⟨fun h => ⟨h, by omega, by omega⟩, by grind, ?_⟩
      simp only [isAcl, hx', Bool.true_and]
      grind
end Go.Proofs.Ytobnbajakenbeaa


/- Contracts: access control lists, the program's test. -/
set_option linter.all false
set_option maxRecDepth 10000
set_option maxHeartbeats 4000000
namespace Go.Proofs.Ytobnbajakenbeaa
open Go Go.Eng

def cmpI (a b : Int) : Int := if a < b then -1 else if b < a then 1 else 0
theorem c_CompareI (a b : Int) : Gives Go.Proofs.Try.prog 106 [I a, I b] (.int .i64 (cmpI a b)) := c_Compare a b
theorem c_Or (a b : Int) : Gives Go.Proofs.Try.prog 105 [.rd 1 [intRow a, intRow b]] (.int .i64 (if a = 0 then b else a)) := by
  refine gives_of_V mixed Go.Proofs.Try.call105 Go.Proofs.Try.func105 rfl (by rw [Go.Proofs.Try.ntmps105]; simp) ?_
  simp (maxSteps := 2000000) (contextual := true) only [↓ctl, evl, val, valP, own, ↓ctlM, tys, Try.ntmps105, Try.results105, ↓V_convert, ↓V_bytes, stdl, cond_true, cond_false, Nat.reduceEqDiff, Nat.reduceAdd, Nat.reduceMul, Nat.reduceSub, Nat.reduceLT, Int.reduceEq, Int.reduceLT, Int.reduceLE, Int.reduceNeg, Nat.reduceLeDiff, if_true, if_false, ↓reduceIte, forall_const, implies_true, reduceCtorEq, forall_eq_or_imp, forall_eq, ne_eq]
  refine V_loopI mixed (ι := {i : Nat // i ≤ 2 ∧ (i = 0 ∨ a = 0) ∧ (i = 2 → b = 0)}) (fun i => ⟨[(3, true, I 0), (6, true, .rd 1 [intRow a, intRow b]), (7, true, I 2), (8, true, I i.1)], [], 0, 18⟩) (fun i => 2 - i.1)  ⟨0, by simp⟩ ?_ ?_ ?_
  · refine weakI ?_
    simp (maxSteps := 2000000) (contextual := true) only [↓ctl, evl, val, valP, own, ↓ctlM, tys, Try.ntmps105, Try.results105, ↓V_convert, ↓V_bytes, stdl, cond_true, cond_false, Nat.reduceEqDiff, Nat.reduceAdd, Nat.reduceMul, Nat.reduceSub, Nat.reduceLT, Int.reduceEq, Int.reduceLT, Int.reduceLE, Int.reduceNeg, Nat.reduceLeDiff, if_true, if_false, ↓reduceIte, forall_const, implies_true, reduceCtorEq, forall_eq_or_imp, forall_eq, ne_eq]
    exact ⟨rfl, rfl⟩
  · trivial
  · rintro ⟨i, hi, hx, hy⟩
    have hc : i = 0 ∨ i = 1 ∨ i = 2 := by omega
    rcases hc with rfl | rfl | rfl
    · simp (maxSteps := 2000000) (contextual := true) only [↓ctl, evl, val, valP, own, ↓ctlM, tys, Try.ntmps105, Try.results105, ↓V_convert, ↓V_bytes, stdl, cond_true, cond_false, Nat.reduceEqDiff, Nat.reduceAdd, Nat.reduceMul, Nat.reduceSub, Nat.reduceLT, Int.reduceEq, Int.reduceLT, Int.reduceLE, Int.reduceNeg, Nat.reduceLeDiff, if_true, if_false, ↓reduceIte, forall_const, implies_true, reduceCtorEq, forall_eq_or_imp, forall_eq, ne_eq]
      refine ⟨fun _ h => ?_, fun h => absurd (by decide) h⟩
      subst h
      refine V_backI ⟨1, by omega, by simp, by simp⟩ (by show 2 - 1 < 2; omega) (weakI ?_)
      simp (maxSteps := 2000000) (contextual := true) only [↓ctl, evl, val, valP, own, ↓ctlM, tys, Try.ntmps105, Try.results105, ↓V_convert, ↓V_bytes, stdl, cond_true, cond_false, Nat.reduceEqDiff, Nat.reduceAdd, Nat.reduceMul, Nat.reduceSub, Nat.reduceLT, Int.reduceEq, Int.reduceLT, Int.reduceLE, Int.reduceNeg, Nat.reduceLeDiff, if_true, if_false, ↓reduceIte, forall_const, implies_true, reduceCtorEq, forall_eq_or_imp, forall_eq, ne_eq]
      rfl
    · have ha : a = 0 := by omega
      subst ha
      simp (maxSteps := 2000000) (contextual := true) only [↓ctl, evl, val, valP, own, ↓ctlM, tys, Try.ntmps105, Try.results105, ↓V_convert, ↓V_bytes, stdl, cond_true, cond_false, Nat.reduceEqDiff, Nat.reduceAdd, Nat.reduceMul, Nat.reduceSub, Nat.reduceLT, Int.reduceEq, Int.reduceLT, Int.reduceLE, Int.reduceNeg, Nat.reduceLeDiff, if_true, if_false, ↓reduceIte, forall_const, implies_true, reduceCtorEq, forall_eq_or_imp, forall_eq, ne_eq]
      refine ⟨fun _ h => ?_, fun h => absurd (by decide) h⟩
      subst h
      refine V_backI ⟨2, by omega, by simp, by simp⟩ (by show 2 - 2 < 1; omega) (weakI ?_)
      simp (maxSteps := 2000000) (contextual := true) only [↓ctl, evl, val, valP, own, ↓ctlM, tys, Try.ntmps105, Try.results105, ↓V_convert, ↓V_bytes, stdl, cond_true, cond_false, Nat.reduceEqDiff, Nat.reduceAdd, Nat.reduceMul, Nat.reduceSub, Nat.reduceLT, Int.reduceEq, Int.reduceLT, Int.reduceLE, Int.reduceNeg, Nat.reduceLeDiff, if_true, if_false, ↓reduceIte, forall_const, implies_true, reduceCtorEq, forall_eq_or_imp, forall_eq, ne_eq]
      rfl
    · have ha : a = 0 := by omega
      have hb : b = 0 := by omega
      subst ha; subst hb
      simp (maxSteps := 2000000) (contextual := true) only [↓ctl, evl, val, valP, own, ↓ctlM, tys, Try.ntmps105, Try.results105, ↓V_convert, ↓V_bytes, stdl, cond_true, cond_false, Nat.reduceEqDiff, Nat.reduceAdd, Nat.reduceMul, Nat.reduceSub, Nat.reduceLT, Int.reduceEq, Int.reduceLT, Int.reduceLE, Int.reduceNeg, Nat.reduceLeDiff, if_true, if_false, ↓reduceIte, forall_const, implies_true, reduceCtorEq, forall_eq_or_imp, forall_eq, ne_eq]
      exact fun h => absurd h (by decide)
theorem c_IsAcl (l : List Acl) (hl : l.length ≤ 1099511627776) : Gives Go.Proofs.Try.prog 89 [.rd 3 (l.map aclRow)] (.bool (isAcl l)) := by
  refine gives_of_V mixed Go.Proofs.Try.call89 Go.Proofs.Try.func89 rfl (by rw [Go.Proofs.Try.ntmps89]; simp) ?_
  simp (maxSteps := 2000000) (contextual := true) only [↓ctl, evl, val, valP, own, ↓ctlM, tys, Try.ntmps89, Try.results89, ↓V_convert, ↓V_bytes, stdl, cond_true, cond_false, Nat.reduceEqDiff, Nat.reduceAdd, Nat.reduceMul, Nat.reduceSub, Nat.reduceLT, Int.reduceEq, Int.reduceLT, Int.reduceLE, Int.reduceNeg, Nat.reduceLeDiff, if_true, if_false, ↓reduceIte, forall_const, implies_true, reduceCtorEq, forall_eq_or_imp, forall_eq, ne_eq]
  refine ⟨fun h6 => ?_, fun h6 => ?_⟩
  · unfold isAcl; grind
  refine V_loopI mixed (ι := {i : Nat // i ≤ l.length ∧ aclFrom none l = aclFrom (prevA l i) (l.drop i)}) (fun i => ⟨[(0, true, .rd 3 (l.map aclRow)), (8, true, .rd 3 (l.map aclRow)), (9, true, I l.length), (10, true, I i.1)], [], 0, 76⟩) (fun i => l.length - i.1)  ⟨0, by simp [prevA]⟩ ?_ ?_ ?_
  · refine weakI ?_
    simp (maxSteps := 2000000) (contextual := true) only [↓ctl, evl, val, valP, own, ↓ctlM, tys, Try.ntmps89, Try.results89, ↓V_convert, ↓V_bytes, stdl, cond_true, cond_false, Nat.reduceEqDiff, Nat.reduceAdd, Nat.reduceMul, Nat.reduceSub, Nat.reduceLT, Int.reduceEq, Int.reduceLT, Int.reduceLE, Int.reduceNeg, Nat.reduceLeDiff, if_true, if_false, ↓reduceIte, forall_const, implies_true, reduceCtorEq, forall_eq_or_imp, forall_eq, ne_eq]
    rfl
  · trivial
  · rintro ⟨i, hi, hx⟩
    by_cases hlt : i < l.length
    · have e1 : IntKind.i64.wrap ((i : Int) - 1) = i - 1 := wrap_id (by omega) (by omega)
      have e2 : ((i : Int) - 1).toNat = i - 1 := by omega
      have e3 : i - 1 < l.length := by omega
      have hst := aclFrom_step hlt
      simp (maxSteps := 2000000) only [↓ctl, evl, val, valP, own, ↓ctlM, tys, Try.ntmps89, Try.results89, ↓V_convert, ↓V_bytes, stdl, cond_true, cond_false, Nat.reduceEqDiff, Nat.reduceAdd, Nat.reduceMul, Nat.reduceSub, Nat.reduceLT, Int.reduceEq, Int.reduceLT, Int.reduceLE, Int.reduceNeg, Nat.reduceLeDiff, if_true, if_false, ↓reduceIte, forall_const, implies_true, reduceCtorEq, forall_eq_or_imp, forall_eq, ne_eq, dat, hlt]
      refine ⟨fun hb => ?_, fun hok => ⟨fun h1 => ⟨fun _ => ?_, fun h => absurd h1 h⟩, fun h1 => ⟨fun h2 => ?_, fun h2 => ⟨fun h3 => ⟨fun h4 => ?_, fun h4 => ?_⟩, fun h3 => ?_⟩⟩⟩⟩
      · have : entryOk (l.getD i default) = false := by unfold entryOk inR; grind
        unfold isAcl; grind
      · refine V_callF mixed (cap := []) (fun _ => e_isUser (l.getD i default).id) (by simp (maxSteps := 2000000) (contextual := true) only [↓ctl, evl, val, valP, own, ↓ctlM, tys, Try.ntmps89, Try.results89, ↓V_convert, ↓V_bytes, stdl, cond_true, cond_false, Nat.reduceEqDiff, Nat.reduceAdd, Nat.reduceMul, Nat.reduceSub, Nat.reduceLT, Int.reduceEq, Int.reduceLT, Int.reduceLE, Int.reduceNeg, Nat.reduceLeDiff, if_true, if_false, ↓reduceIte, forall_const, implies_true, reduceCtorEq, forall_eq_or_imp, forall_eq, ne_eq]) (by simp (maxSteps := 2000000) (contextual := true) only [↓ctl, evl, val, valP, own, ↓ctlM, tys, Try.ntmps89, Try.results89, ↓V_convert, ↓V_bytes, stdl, cond_true, cond_false, Nat.reduceEqDiff, Nat.reduceAdd, Nat.reduceMul, Nat.reduceSub, Nat.reduceLT, Int.reduceEq, Int.reduceLT, Int.reduceLE, Int.reduceNeg, Nat.reduceLeDiff, if_true, if_false, ↓reduceIte, forall_const, implies_true, reduceCtorEq, forall_eq_or_imp, forall_eq, ne_eq]) (by simp (maxSteps := 2000000) (contextual := true) only [↓ctl, evl, val, valP, own, ↓ctlM, tys, Try.ntmps89, Try.results89, ↓V_convert, ↓V_bytes, stdl, cond_true, cond_false, Nat.reduceEqDiff, Nat.reduceAdd, Nat.reduceMul, Nat.reduceSub, Nat.reduceLT, Int.reduceEq, Int.reduceLT, Int.reduceLE, Int.reduceNeg, Nat.reduceLeDiff, if_true, if_false, ↓reduceIte, forall_const, implies_true, reduceCtorEq, forall_eq_or_imp, forall_eq, ne_eq]) trivial ?_
        simp (maxSteps := 2000000) only [↓ctl, evl, val, valP, own, ↓ctlM, tys, Try.ntmps89, Try.results89, ↓V_convert, ↓V_bytes, stdl, cond_true, cond_false, Nat.reduceEqDiff, Nat.reduceAdd, Nat.reduceMul, Nat.reduceSub, Nat.reduceLT, Int.reduceEq, Int.reduceLT, Int.reduceLE, Int.reduceNeg, Nat.reduceLeDiff, if_true, if_false, ↓reduceIte, forall_const, implies_true, reduceCtorEq, forall_eq_or_imp, forall_eq, ne_eq]
        refine ⟨fun hu => ?_, fun hu => ?_⟩
        · have : entryOk (l.getD i default) = false := by unfold entryOk; unfold isUser at hu; grind
          unfold isAcl; grind
        have hok' : entryOk (l.getD i default) = true := by unfold isUser inR at hu; unfold entryOk inR; grind
        refine VM_start mixed 21 (by kernel_rfl) (by kernel_rfl) trivial ?_
        by_cases h0 : (i : Int) > 0
        · have e4 : (0 : Int) ≤ i - 1 := by omega
          have e5 : (i : Int) - 1 < l.length := by omega
          simp (maxSteps := 2000000) only [↓ctl, evl, val, valP, own, ↓ctlM, tys, Try.ntmps89, Try.results89, ↓V_convert, ↓V_bytes, stdl, cond_true, cond_false, Nat.reduceEqDiff, Nat.reduceAdd, Nat.reduceMul, Nat.reduceSub, Nat.reduceLT, Int.reduceEq, Int.reduceLT, Int.reduceLE, Int.reduceNeg, Nat.reduceLeDiff, if_true, if_false, ↓reduceIte, forall_const, implies_true, reduceCtorEq, forall_eq_or_imp, forall_eq, ne_eq, dat, hlt, e1, e2, e3, e4, e5, h0]
          refine VM_callI mixed (cap := []) (fun _ => c_CompareI (l.getD (i - 1) default).tag (l.getD i default).tag) (by simp (maxSteps := 2000000) (contextual := true) only [↓ctl, evl, val, valP, own, ↓ctlM, tys, Try.ntmps89, Try.results89, ↓V_convert, ↓V_bytes, stdl, cond_true, cond_false, Nat.reduceEqDiff, Nat.reduceAdd, Nat.reduceMul, Nat.reduceSub, Nat.reduceLT, Int.reduceEq, Int.reduceLT, Int.reduceLE, Int.reduceNeg, Nat.reduceLeDiff, if_true, if_false, ↓reduceIte, forall_const, implies_true, reduceCtorEq, forall_eq_or_imp, forall_eq, ne_eq, h0]) (by simp (maxSteps := 2000000) only [↓ctl, evl, val, valP, own, ↓ctlM, tys, Try.ntmps89, Try.results89, ↓V_convert, ↓V_bytes, stdl, cond_true, cond_false, Nat.reduceEqDiff, Nat.reduceAdd, Nat.reduceMul, Nat.reduceSub, Nat.reduceLT, Int.reduceEq, Int.reduceLT, Int.reduceLE, Int.reduceNeg, Nat.reduceLeDiff, if_true, if_false, ↓reduceIte, forall_const, implies_true, reduceCtorEq, forall_eq_or_imp, forall_eq, ne_eq, h0]) (by simp (maxSteps := 2000000) only [↓ctl, evl, val, valP, own, ↓ctlM, tys, Try.ntmps89, Try.results89, ↓V_convert, ↓V_bytes, stdl, cond_true, cond_false, Nat.reduceEqDiff, Nat.reduceAdd, Nat.reduceMul, Nat.reduceSub, Nat.reduceLT, Int.reduceEq, Int.reduceLT, Int.reduceLE, Int.reduceNeg, Nat.reduceLeDiff, if_true, if_false, ↓reduceIte, forall_const, implies_true, reduceCtorEq, forall_eq_or_imp, forall_eq, ne_eq]) trivial ?_
          simp (maxSteps := 2000000) only [↓ctl, evl, val, valP, own, ↓ctlM, tys, Try.ntmps89, Try.results89, ↓V_convert, ↓V_bytes, stdl, cond_true, cond_false, Nat.reduceEqDiff, Nat.reduceAdd, Nat.reduceMul, Nat.reduceSub, Nat.reduceLT, Int.reduceEq, Int.reduceLT, Int.reduceLE, Int.reduceNeg, Nat.reduceLeDiff, if_true, if_false, ↓reduceIte, forall_const, implies_true, reduceCtorEq, forall_eq_or_imp, forall_eq, ne_eq, dat, hlt, e1, e2, e3, e4, e5, h0]
          refine VM_callI mixed (cap := []) (fun _ => c_CompareI (l.getD (i - 1) default).id (l.getD i default).id) (by simp (maxSteps := 2000000) (contextual := true) only [↓ctl, evl, val, valP, own, ↓ctlM, tys, Try.ntmps89, Try.results89, ↓V_convert, ↓V_bytes, stdl, cond_true, cond_false, Nat.reduceEqDiff, Nat.reduceAdd, Nat.reduceMul, Nat.reduceSub, Nat.reduceLT, Int.reduceEq, Int.reduceLT, Int.reduceLE, Int.reduceNeg, Nat.reduceLeDiff, if_true, if_false, ↓reduceIte, forall_const, implies_true, reduceCtorEq, forall_eq_or_imp, forall_eq, ne_eq, h0]) (by simp (maxSteps := 2000000) only [↓ctl, evl, val, valP, own, ↓ctlM, tys, Try.ntmps89, Try.results89, ↓V_convert, ↓V_bytes, stdl, cond_true, cond_false, Nat.reduceEqDiff, Nat.reduceAdd, Nat.reduceMul, Nat.reduceSub, Nat.reduceLT, Int.reduceEq, Int.reduceLT, Int.reduceLE, Int.reduceNeg, Nat.reduceLeDiff, if_true, if_false, ↓reduceIte, forall_const, implies_true, reduceCtorEq, forall_eq_or_imp, forall_eq, ne_eq, h0]) (by simp (maxSteps := 2000000) only [↓ctl, evl, val, valP, own, ↓ctlM, tys, Try.ntmps89, Try.results89, ↓V_convert, ↓V_bytes, stdl, cond_true, cond_false, Nat.reduceEqDiff, Nat.reduceAdd, Nat.reduceMul, Nat.reduceSub, Nat.reduceLT, Int.reduceEq, Int.reduceLT, Int.reduceLE, Int.reduceNeg, Nat.reduceLeDiff, if_true, if_false, ↓reduceIte, forall_const, implies_true, reduceCtorEq, forall_eq_or_imp, forall_eq, ne_eq]) trivial ?_
          simp (maxSteps := 2000000) only [↓ctl, evl, val, valP, own, ↓ctlM, tys, Try.ntmps89, Try.results89, ↓V_convert, ↓V_bytes, stdl, cond_true, cond_false, Nat.reduceEqDiff, Nat.reduceAdd, Nat.reduceMul, Nat.reduceSub, Nat.reduceLT, Int.reduceEq, Int.reduceLT, Int.reduceLE, Int.reduceNeg, Nat.reduceLeDiff, if_true, if_false, ↓reduceIte, forall_const, implies_true, reduceCtorEq, forall_eq_or_imp, forall_eq, ne_eq, dat, h0, litChunk]
          refine VM_callI mixed (cap := []) (fun _ => c_Or (cmpI (l.getD (i - 1) default).tag (l.getD i default).tag) (cmpI (l.getD (i - 1) default).id (l.getD i default).id)) (by simp (maxSteps := 2000000) (contextual := true) only [↓ctl, evl, val, valP, own, ↓ctlM, tys, Try.ntmps89, Try.results89, ↓V_convert, ↓V_bytes, stdl, cond_true, cond_false, Nat.reduceEqDiff, Nat.reduceAdd, Nat.reduceMul, Nat.reduceSub, Nat.reduceLT, Int.reduceEq, Int.reduceLT, Int.reduceLE, Int.reduceNeg, Nat.reduceLeDiff, if_true, if_false, ↓reduceIte, forall_const, implies_true, reduceCtorEq, forall_eq_or_imp, forall_eq, ne_eq, h0]) (by simp (maxSteps := 2000000) only [↓ctl, evl, val, valP, own, ↓ctlM, tys, Try.ntmps89, Try.results89, ↓V_convert, ↓V_bytes, stdl, cond_true, cond_false, Nat.reduceEqDiff, Nat.reduceAdd, Nat.reduceMul, Nat.reduceSub, Nat.reduceLT, Int.reduceEq, Int.reduceLT, Int.reduceLE, Int.reduceNeg, Nat.reduceLeDiff, if_true, if_false, ↓reduceIte, forall_const, implies_true, reduceCtorEq, forall_eq_or_imp, forall_eq, ne_eq, h0]) (by simp (maxSteps := 2000000) only [↓ctl, evl, val, valP, own, ↓ctlM, tys, Try.ntmps89, Try.results89, ↓V_convert, ↓V_bytes, stdl, cond_true, cond_false, Nat.reduceEqDiff, Nat.reduceAdd, Nat.reduceMul, Nat.reduceSub, Nat.reduceLT, Int.reduceEq, Int.reduceLT, Int.reduceLE, Int.reduceNeg, Nat.reduceLeDiff, if_true, if_false, ↓reduceIte, forall_const, implies_true, reduceCtorEq, forall_eq_or_imp, forall_eq, ne_eq]) trivial ?_
          simp (maxSteps := 2000000) only [↓ctl, evl, val, valP, own, ↓ctlM, tys, Try.ntmps89, Try.results89, ↓V_convert, ↓V_bytes, stdl, cond_true, cond_false, Nat.reduceEqDiff, Nat.reduceAdd, Nat.reduceMul, Nat.reduceSub, Nat.reduceLT, Int.reduceEq, Int.reduceLT, Int.reduceLE, Int.reduceNeg, Nat.reduceLeDiff, if_true, if_false, ↓reduceIte, forall_const, implies_true, reduceCtorEq, forall_eq_or_imp, forall_eq, ne_eq, h0]
          have hd : decide (i = 0) = false := by simp; omega
          have hcmp : ((if cmpI (l.getD (i - 1) default).tag (l.getD i default).tag = 0 then cmpI (l.getD (i - 1) default).id (l.getD i default).id else cmpI (l.getD (i - 1) default).tag (l.getD i default).tag) ≥ 0) ↔ aclLt (l.getD (i - 1) default) (l.getD i default) = false := by
            unfold cmpI aclLt; simp only [decide_eq_false_iff_not]; split <;> split <;> omega
          refine ⟨fun h => ?_, fun h => ?_⟩
          · rw [hcmp] at h
            rw [hd, h] at hst
            unfold isAcl; grind
          · rw [hcmp] at h
            refine V_backI ⟨i + 1, by omega, ?_⟩ (by show _ - (i + 1) < _; omega) (weakI ?_)
            · rw [hx, hst, hok']; grind
            · simp (maxSteps := 2000000) only [↓ctl, evl, val, valP, own, ↓ctlM, tys, Try.ntmps89, Try.results89, ↓V_convert, ↓V_bytes, stdl, cond_true, cond_false, Nat.reduceEqDiff, Nat.reduceAdd, Nat.reduceMul, Nat.reduceSub, Nat.reduceLT, Int.reduceEq, Int.reduceLT, Int.reduceLE, Int.reduceNeg, Nat.reduceLeDiff, if_true, if_false, ↓reduceIte, forall_const, implies_true, reduceCtorEq, forall_eq_or_imp, forall_eq, ne_eq]
              rw [wrap_id (by omega) (by omega)]
              rfl
        · have hi0 : i = 0 := by omega
          simp (maxSteps := 2000000) only [↓ctl, evl, val, valP, own, ↓ctlM, tys, Try.ntmps89, Try.results89, ↓V_convert, ↓V_bytes, stdl, cond_true, cond_false, Nat.reduceEqDiff, Nat.reduceAdd, Nat.reduceMul, Nat.reduceSub, Nat.reduceLT, Int.reduceEq, Int.reduceLT, Int.reduceLE, Int.reduceNeg, Nat.reduceLeDiff, if_true, if_false, ↓reduceIte, forall_const, implies_true, reduceCtorEq, forall_eq_or_imp, forall_eq, ne_eq, dat, hlt, h0]
          refine VM_callI mixed (cap := []) (fun _ => c_CompareI 0 0) (by simp (maxSteps := 2000000) (contextual := true) only [↓ctl, evl, val, valP, own, ↓ctlM, tys, Try.ntmps89, Try.results89, ↓V_convert, ↓V_bytes, stdl, cond_true, cond_false, Nat.reduceEqDiff, Nat.reduceAdd, Nat.reduceMul, Nat.reduceSub, Nat.reduceLT, Int.reduceEq, Int.reduceLT, Int.reduceLE, Int.reduceNeg, Nat.reduceLeDiff, if_true, if_false, ↓reduceIte, forall_const, implies_true, reduceCtorEq, forall_eq_or_imp, forall_eq, ne_eq, h0]) (by simp (maxSteps := 2000000) only [↓ctl, evl, val, valP, own, ↓ctlM, tys, Try.ntmps89, Try.results89, ↓V_convert, ↓V_bytes, stdl, cond_true, cond_false, Nat.reduceEqDiff, Nat.reduceAdd, Nat.reduceMul, Nat.reduceSub, Nat.reduceLT, Int.reduceEq, Int.reduceLT, Int.reduceLE, Int.reduceNeg, Nat.reduceLeDiff, if_true, if_false, ↓reduceIte, forall_const, implies_true, reduceCtorEq, forall_eq_or_imp, forall_eq, ne_eq, h0]) (by simp (maxSteps := 2000000) only [↓ctl, evl, val, valP, own, ↓ctlM, tys, Try.ntmps89, Try.results89, ↓V_convert, ↓V_bytes, stdl, cond_true, cond_false, Nat.reduceEqDiff, Nat.reduceAdd, Nat.reduceMul, Nat.reduceSub, Nat.reduceLT, Int.reduceEq, Int.reduceLT, Int.reduceLE, Int.reduceNeg, Nat.reduceLeDiff, if_true, if_false, ↓reduceIte, forall_const, implies_true, reduceCtorEq, forall_eq_or_imp, forall_eq, ne_eq]) trivial ?_
          simp (maxSteps := 2000000) only [↓ctl, evl, val, valP, own, ↓ctlM, tys, Try.ntmps89, Try.results89, ↓V_convert, ↓V_bytes, stdl, cond_true, cond_false, Nat.reduceEqDiff, Nat.reduceAdd, Nat.reduceMul, Nat.reduceSub, Nat.reduceLT, Int.reduceEq, Int.reduceLT, Int.reduceLE, Int.reduceNeg, Nat.reduceLeDiff, if_true, if_false, ↓reduceIte, forall_const, implies_true, reduceCtorEq, forall_eq_or_imp, forall_eq, ne_eq, dat, hlt, h0]
          refine VM_callI mixed (cap := []) (fun _ => c_CompareI 0 0) (by simp (maxSteps := 2000000) (contextual := true) only [↓ctl, evl, val, valP, own, ↓ctlM, tys, Try.ntmps89, Try.results89, ↓V_convert, ↓V_bytes, stdl, cond_true, cond_false, Nat.reduceEqDiff, Nat.reduceAdd, Nat.reduceMul, Nat.reduceSub, Nat.reduceLT, Int.reduceEq, Int.reduceLT, Int.reduceLE, Int.reduceNeg, Nat.reduceLeDiff, if_true, if_false, ↓reduceIte, forall_const, implies_true, reduceCtorEq, forall_eq_or_imp, forall_eq, ne_eq, h0]) (by simp (maxSteps := 2000000) only [↓ctl, evl, val, valP, own, ↓ctlM, tys, Try.ntmps89, Try.results89, ↓V_convert, ↓V_bytes, stdl, cond_true, cond_false, Nat.reduceEqDiff, Nat.reduceAdd, Nat.reduceMul, Nat.reduceSub, Nat.reduceLT, Int.reduceEq, Int.reduceLT, Int.reduceLE, Int.reduceNeg, Nat.reduceLeDiff, if_true, if_false, ↓reduceIte, forall_const, implies_true, reduceCtorEq, forall_eq_or_imp, forall_eq, ne_eq, h0]) (by simp (maxSteps := 2000000) only [↓ctl, evl, val, valP, own, ↓ctlM, tys, Try.ntmps89, Try.results89, ↓V_convert, ↓V_bytes, stdl, cond_true, cond_false, Nat.reduceEqDiff, Nat.reduceAdd, Nat.reduceMul, Nat.reduceSub, Nat.reduceLT, Int.reduceEq, Int.reduceLT, Int.reduceLE, Int.reduceNeg, Nat.reduceLeDiff, if_true, if_false, ↓reduceIte, forall_const, implies_true, reduceCtorEq, forall_eq_or_imp, forall_eq, ne_eq]) trivial ?_
          simp (maxSteps := 2000000) only [↓ctl, evl, val, valP, own, ↓ctlM, tys, Try.ntmps89, Try.results89, ↓V_convert, ↓V_bytes, stdl, cond_true, cond_false, Nat.reduceEqDiff, Nat.reduceAdd, Nat.reduceMul, Nat.reduceSub, Nat.reduceLT, Int.reduceEq, Int.reduceLT, Int.reduceLE, Int.reduceNeg, Nat.reduceLeDiff, if_true, if_false, ↓reduceIte, forall_const, implies_true, reduceCtorEq, forall_eq_or_imp, forall_eq, ne_eq, dat, h0, litChunk]
          refine VM_callI mixed (cap := []) (fun _ => c_Or 0 0) (by simp (maxSteps := 2000000) (contextual := true) only [↓ctl, evl, val, valP, own, ↓ctlM, tys, Try.ntmps89, Try.results89, ↓V_convert, ↓V_bytes, stdl, cond_true, cond_false, Nat.reduceEqDiff, Nat.reduceAdd, Nat.reduceMul, Nat.reduceSub, Nat.reduceLT, Int.reduceEq, Int.reduceLT, Int.reduceLE, Int.reduceNeg, Nat.reduceLeDiff, if_true, if_false, ↓reduceIte, forall_const, implies_true, reduceCtorEq, forall_eq_or_imp, forall_eq, ne_eq, h0]) (by simp (maxSteps := 2000000) only [↓ctl, evl, val, valP, own, ↓ctlM, tys, Try.ntmps89, Try.results89, ↓V_convert, ↓V_bytes, stdl, cond_true, cond_false, Nat.reduceEqDiff, Nat.reduceAdd, Nat.reduceMul, Nat.reduceSub, Nat.reduceLT, Int.reduceEq, Int.reduceLT, Int.reduceLE, Int.reduceNeg, Nat.reduceLeDiff, if_true, if_false, ↓reduceIte, forall_const, implies_true, reduceCtorEq, forall_eq_or_imp, forall_eq, ne_eq, h0]) (by simp (maxSteps := 2000000) only [↓ctl, evl, val, valP, own, ↓ctlM, tys, Try.ntmps89, Try.results89, ↓V_convert, ↓V_bytes, stdl, cond_true, cond_false, Nat.reduceEqDiff, Nat.reduceAdd, Nat.reduceMul, Nat.reduceSub, Nat.reduceLT, Int.reduceEq, Int.reduceLT, Int.reduceLE, Int.reduceNeg, Nat.reduceLeDiff, if_true, if_false, ↓reduceIte, forall_const, implies_true, reduceCtorEq, forall_eq_or_imp, forall_eq, ne_eq]) trivial ?_
          simp (maxSteps := 2000000) only [↓ctl, evl, val, valP, own, ↓ctlM, tys, Try.ntmps89, Try.results89, ↓V_convert, ↓V_bytes, stdl, cond_true, cond_false, Nat.reduceEqDiff, Nat.reduceAdd, Nat.reduceMul, Nat.reduceSub, Nat.reduceLT, Int.reduceEq, Int.reduceLT, Int.reduceLE, Int.reduceNeg, Nat.reduceLeDiff, if_true, if_false, ↓reduceIte, forall_const, implies_true, reduceCtorEq, forall_eq_or_imp, forall_eq, ne_eq, h0]
          refine V_backI ⟨i + 1, by omega, ?_⟩ (by show _ - (i + 1) < _; omega) (weakI ?_)
          · have hd : decide (i = 0) = true := by simp [hi0]
            rw [hx, hst, hok', hd]; grind
          · simp (maxSteps := 2000000) only [↓ctl, evl, val, valP, own, ↓ctlM, tys, Try.ntmps89, Try.results89, ↓V_convert, ↓V_bytes, stdl, cond_true, cond_false, Nat.reduceEqDiff, Nat.reduceAdd, Nat.reduceMul, Nat.reduceSub, Nat.reduceLT, Int.reduceEq, Int.reduceLT, Int.reduceLE, Int.reduceNeg, Nat.reduceLeDiff, if_true, if_false, ↓reduceIte, forall_const, implies_true, reduceCtorEq, forall_eq_or_imp, forall_eq, ne_eq]
            rw [wrap_id (by omega) (by omega)]
            rfl
      · refine V_callF mixed (cap := []) (fun _ => e_isUser (l.getD i default).id) (by simp (maxSteps := 2000000) (contextual := true) only [↓ctl, evl, val, valP, own, ↓ctlM, tys, Try.ntmps89, Try.results89, ↓V_convert, ↓V_bytes, stdl, cond_true, cond_false, Nat.reduceEqDiff, Nat.reduceAdd, Nat.reduceMul, Nat.reduceSub, Nat.reduceLT, Int.reduceEq, Int.reduceLT, Int.reduceLE, Int.reduceNeg, Nat.reduceLeDiff, if_true, if_false, ↓reduceIte, forall_const, implies_true, reduceCtorEq, forall_eq_or_imp, forall_eq, ne_eq]) (by simp (maxSteps := 2000000) (contextual := true) only [↓ctl, evl, val, valP, own, ↓ctlM, tys, Try.ntmps89, Try.results89, ↓V_convert, ↓V_bytes, stdl, cond_true, cond_false, Nat.reduceEqDiff, Nat.reduceAdd, Nat.reduceMul, Nat.reduceSub, Nat.reduceLT, Int.reduceEq, Int.reduceLT, Int.reduceLE, Int.reduceNeg, Nat.reduceLeDiff, if_true, if_false, ↓reduceIte, forall_const, implies_true, reduceCtorEq, forall_eq_or_imp, forall_eq, ne_eq]) (by simp (maxSteps := 2000000) (contextual := true) only [↓ctl, evl, val, valP, own, ↓ctlM, tys, Try.ntmps89, Try.results89, ↓V_convert, ↓V_bytes, stdl, cond_true, cond_false, Nat.reduceEqDiff, Nat.reduceAdd, Nat.reduceMul, Nat.reduceSub, Nat.reduceLT, Int.reduceEq, Int.reduceLT, Int.reduceLE, Int.reduceNeg, Nat.reduceLeDiff, if_true, if_false, ↓reduceIte, forall_const, implies_true, reduceCtorEq, forall_eq_or_imp, forall_eq, ne_eq]) trivial ?_
        simp (maxSteps := 2000000) only [↓ctl, evl, val, valP, own, ↓ctlM, tys, Try.ntmps89, Try.results89, ↓V_convert, ↓V_bytes, stdl, cond_true, cond_false, Nat.reduceEqDiff, Nat.reduceAdd, Nat.reduceMul, Nat.reduceSub, Nat.reduceLT, Int.reduceEq, Int.reduceLT, Int.reduceLE, Int.reduceNeg, Nat.reduceLeDiff, if_true, if_false, ↓reduceIte, forall_const, implies_true, reduceCtorEq, forall_eq_or_imp, forall_eq, ne_eq]
        refine ⟨fun hu => ?_, fun hu => ?_⟩
        · have : entryOk (l.getD i default) = false := by unfold entryOk; unfold isUser at hu; grind
          unfold isAcl; grind
        have hok' : entryOk (l.getD i default) = true := by unfold isUser inR at hu; unfold entryOk inR; grind
        refine VM_start mixed 21 (by kernel_rfl) (by kernel_rfl) trivial ?_
        by_cases h0 : (i : Int) > 0
        · have e4 : (0 : Int) ≤ i - 1 := by omega
          have e5 : (i : Int) - 1 < l.length := by omega
          simp (maxSteps := 2000000) only [↓ctl, evl, val, valP, own, ↓ctlM, tys, Try.ntmps89, Try.results89, ↓V_convert, ↓V_bytes, stdl, cond_true, cond_false, Nat.reduceEqDiff, Nat.reduceAdd, Nat.reduceMul, Nat.reduceSub, Nat.reduceLT, Int.reduceEq, Int.reduceLT, Int.reduceLE, Int.reduceNeg, Nat.reduceLeDiff, if_true, if_false, ↓reduceIte, forall_const, implies_true, reduceCtorEq, forall_eq_or_imp, forall_eq, ne_eq, dat, hlt, e1, e2, e3, e4, e5, h0]
          refine VM_callI mixed (cap := []) (fun _ => c_CompareI (l.getD (i - 1) default).tag (l.getD i default).tag) (by simp (maxSteps := 2000000) (contextual := true) only [↓ctl, evl, val, valP, own, ↓ctlM, tys, Try.ntmps89, Try.results89, ↓V_convert, ↓V_bytes, stdl, cond_true, cond_false, Nat.reduceEqDiff, Nat.reduceAdd, Nat.reduceMul, Nat.reduceSub, Nat.reduceLT, Int.reduceEq, Int.reduceLT, Int.reduceLE, Int.reduceNeg, Nat.reduceLeDiff, if_true, if_false, ↓reduceIte, forall_const, implies_true, reduceCtorEq, forall_eq_or_imp, forall_eq, ne_eq, h0]) (by simp (maxSteps := 2000000) only [↓ctl, evl, val, valP, own, ↓ctlM, tys, Try.ntmps89, Try.results89, ↓V_convert, ↓V_bytes, stdl, cond_true, cond_false, Nat.reduceEqDiff, Nat.reduceAdd, Nat.reduceMul, Nat.reduceSub, Nat.reduceLT, Int.reduceEq, Int.reduceLT, Int.reduceLE, Int.reduceNeg, Nat.reduceLeDiff, if_true, if_false, ↓reduceIte, forall_const, implies_true, reduceCtorEq, forall_eq_or_imp, forall_eq, ne_eq, h0]) (by simp (maxSteps := 2000000) only [↓ctl, evl, val, valP, own, ↓ctlM, tys, Try.ntmps89, Try.results89, ↓V_convert, ↓V_bytes, stdl, cond_true, cond_false, Nat.reduceEqDiff, Nat.reduceAdd, Nat.reduceMul, Nat.reduceSub, Nat.reduceLT, Int.reduceEq, Int.reduceLT, Int.reduceLE, Int.reduceNeg, Nat.reduceLeDiff, if_true, if_false, ↓reduceIte, forall_const, implies_true, reduceCtorEq, forall_eq_or_imp, forall_eq, ne_eq]) trivial ?_
          simp (maxSteps := 2000000) only [↓ctl, evl, val, valP, own, ↓ctlM, tys, Try.ntmps89, Try.results89, ↓V_convert, ↓V_bytes, stdl, cond_true, cond_false, Nat.reduceEqDiff, Nat.reduceAdd, Nat.reduceMul, Nat.reduceSub, Nat.reduceLT, Int.reduceEq, Int.reduceLT, Int.reduceLE, Int.reduceNeg, Nat.reduceLeDiff, if_true, if_false, ↓reduceIte, forall_const, implies_true, reduceCtorEq, forall_eq_or_imp, forall_eq, ne_eq, dat, hlt, e1, e2, e3, e4, e5, h0]
          refine VM_callI mixed (cap := []) (fun _ => c_CompareI (l.getD (i - 1) default).id (l.getD i default).id) (by simp (maxSteps := 2000000) (contextual := true) only [↓ctl, evl, val, valP, own, ↓ctlM, tys, Try.ntmps89, Try.results89, ↓V_convert, ↓V_bytes, stdl, cond_true, cond_false, Nat.reduceEqDiff, Nat.reduceAdd, Nat.reduceMul, Nat.reduceSub, Nat.reduceLT, Int.reduceEq, Int.reduceLT, Int.reduceLE, Int.reduceNeg, Nat.reduceLeDiff, if_true, if_false, ↓reduceIte, forall_const, implies_true, reduceCtorEq, forall_eq_or_imp, forall_eq, ne_eq, h0]) (by simp (maxSteps := 2000000) only [↓ctl, evl, val, valP, own, ↓ctlM, tys, Try.ntmps89, Try.results89, ↓V_convert, ↓V_bytes, stdl, cond_true, cond_false, Nat.reduceEqDiff, Nat.reduceAdd, Nat.reduceMul, Nat.reduceSub, Nat.reduceLT, Int.reduceEq, Int.reduceLT, Int.reduceLE, Int.reduceNeg, Nat.reduceLeDiff, if_true, if_false, ↓reduceIte, forall_const, implies_true, reduceCtorEq, forall_eq_or_imp, forall_eq, ne_eq, h0]) (by simp (maxSteps := 2000000) only [↓ctl, evl, val, valP, own, ↓ctlM, tys, Try.ntmps89, Try.results89, ↓V_convert, ↓V_bytes, stdl, cond_true, cond_false, Nat.reduceEqDiff, Nat.reduceAdd, Nat.reduceMul, Nat.reduceSub, Nat.reduceLT, Int.reduceEq, Int.reduceLT, Int.reduceLE, Int.reduceNeg, Nat.reduceLeDiff, if_true, if_false, ↓reduceIte, forall_const, implies_true, reduceCtorEq, forall_eq_or_imp, forall_eq, ne_eq]) trivial ?_
          simp (maxSteps := 2000000) only [↓ctl, evl, val, valP, own, ↓ctlM, tys, Try.ntmps89, Try.results89, ↓V_convert, ↓V_bytes, stdl, cond_true, cond_false, Nat.reduceEqDiff, Nat.reduceAdd, Nat.reduceMul, Nat.reduceSub, Nat.reduceLT, Int.reduceEq, Int.reduceLT, Int.reduceLE, Int.reduceNeg, Nat.reduceLeDiff, if_true, if_false, ↓reduceIte, forall_const, implies_true, reduceCtorEq, forall_eq_or_imp, forall_eq, ne_eq, dat, h0, litChunk]
          refine VM_callI mixed (cap := []) (fun _ => c_Or (cmpI (l.getD (i - 1) default).tag (l.getD i default).tag) (cmpI (l.getD (i - 1) default).id (l.getD i default).id)) (by simp (maxSteps := 2000000) (contextual := true) only [↓ctl, evl, val, valP, own, ↓ctlM, tys, Try.ntmps89, Try.results89, ↓V_convert, ↓V_bytes, stdl, cond_true, cond_false, Nat.reduceEqDiff, Nat.reduceAdd, Nat.reduceMul, Nat.reduceSub, Nat.reduceLT, Int.reduceEq, Int.reduceLT, Int.reduceLE, Int.reduceNeg, Nat.reduceLeDiff, if_true, if_false, ↓reduceIte, forall_const, implies_true, reduceCtorEq, forall_eq_or_imp, forall_eq, ne_eq, h0]) (by simp (maxSteps := 2000000) only [↓ctl, evl, val, valP, own, ↓ctlM, tys, Try.ntmps89, Try.results89, ↓V_convert, ↓V_bytes, stdl, cond_true, cond_false, Nat.reduceEqDiff, Nat.reduceAdd, Nat.reduceMul, Nat.reduceSub, Nat.reduceLT, Int.reduceEq, Int.reduceLT, Int.reduceLE, Int.reduceNeg, Nat.reduceLeDiff, if_true, if_false, ↓reduceIte, forall_const, implies_true, reduceCtorEq, forall_eq_or_imp, forall_eq, ne_eq, h0]) (by simp (maxSteps := 2000000) only [↓ctl, evl, val, valP, own, ↓ctlM, tys, Try.ntmps89, Try.results89, ↓V_convert, ↓V_bytes, stdl, cond_true, cond_false, Nat.reduceEqDiff, Nat.reduceAdd, Nat.reduceMul, Nat.reduceSub, Nat.reduceLT, Int.reduceEq, Int.reduceLT, Int.reduceLE, Int.reduceNeg, Nat.reduceLeDiff, if_true, if_false, ↓reduceIte, forall_const, implies_true, reduceCtorEq, forall_eq_or_imp, forall_eq, ne_eq]) trivial ?_
          simp (maxSteps := 2000000) only [↓ctl, evl, val, valP, own, ↓ctlM, tys, Try.ntmps89, Try.results89, ↓V_convert, ↓V_bytes, stdl, cond_true, cond_false, Nat.reduceEqDiff, Nat.reduceAdd, Nat.reduceMul, Nat.reduceSub, Nat.reduceLT, Int.reduceEq, Int.reduceLT, Int.reduceLE, Int.reduceNeg, Nat.reduceLeDiff, if_true, if_false, ↓reduceIte, forall_const, implies_true, reduceCtorEq, forall_eq_or_imp, forall_eq, ne_eq, h0]
          have hd : decide (i = 0) = false := by simp; omega
          have hcmp : ((if cmpI (l.getD (i - 1) default).tag (l.getD i default).tag = 0 then cmpI (l.getD (i - 1) default).id (l.getD i default).id else cmpI (l.getD (i - 1) default).tag (l.getD i default).tag) ≥ 0) ↔ aclLt (l.getD (i - 1) default) (l.getD i default) = false := by
            unfold cmpI aclLt; simp only [decide_eq_false_iff_not]; split <;> split <;> omega
          refine ⟨fun h => ?_, fun h => ?_⟩
          · rw [hcmp] at h
            rw [hd, h] at hst
            unfold isAcl; grind
          · rw [hcmp] at h
            refine V_backI ⟨i + 1, by omega, ?_⟩ (by show _ - (i + 1) < _; omega) (weakI ?_)
            · rw [hx, hst, hok']; grind
            · simp (maxSteps := 2000000) only [↓ctl, evl, val, valP, own, ↓ctlM, tys, Try.ntmps89, Try.results89, ↓V_convert, ↓V_bytes, stdl, cond_true, cond_false, Nat.reduceEqDiff, Nat.reduceAdd, Nat.reduceMul, Nat.reduceSub, Nat.reduceLT, Int.reduceEq, Int.reduceLT, Int.reduceLE, Int.reduceNeg, Nat.reduceLeDiff, if_true, if_false, ↓reduceIte, forall_const, implies_true, reduceCtorEq, forall_eq_or_imp, forall_eq, ne_eq]
              rw [wrap_id (by omega) (by omega)]
              rfl
        · have hi0 : i = 0 := by omega
          simp (maxSteps := 2000000) only [↓ctl, evl, val, valP, own, ↓ctlM, tys, Try.ntmps89, Try.results89, ↓V_convert, ↓V_bytes, stdl, cond_true, cond_false, Nat.reduceEqDiff, Nat.reduceAdd, Nat.reduceMul, Nat.reduceSub, Nat.reduceLT, Int.reduceEq, Int.reduceLT, Int.reduceLE, Int.reduceNeg, Nat.reduceLeDiff, if_true, if_false, ↓reduceIte, forall_const, implies_true, reduceCtorEq, forall_eq_or_imp, forall_eq, ne_eq, dat, hlt, h0]
          refine VM_callI mixed (cap := []) (fun _ => c_CompareI 0 0) (by simp (maxSteps := 2000000) (contextual := true) only [↓ctl, evl, val, valP, own, ↓ctlM, tys, Try.ntmps89, Try.results89, ↓V_convert, ↓V_bytes, stdl, cond_true, cond_false, Nat.reduceEqDiff, Nat.reduceAdd, Nat.reduceMul, Nat.reduceSub, Nat.reduceLT, Int.reduceEq, Int.reduceLT, Int.reduceLE, Int.reduceNeg, Nat.reduceLeDiff, if_true, if_false, ↓reduceIte, forall_const, implies_true, reduceCtorEq, forall_eq_or_imp, forall_eq, ne_eq, h0]) (by simp (maxSteps := 2000000) only [↓ctl, evl, val, valP, own, ↓ctlM, tys, Try.ntmps89, Try.results89, ↓V_convert, ↓V_bytes, stdl, cond_true, cond_false, Nat.reduceEqDiff, Nat.reduceAdd, Nat.reduceMul, Nat.reduceSub, Nat.reduceLT, Int.reduceEq, Int.reduceLT, Int.reduceLE, Int.reduceNeg, Nat.reduceLeDiff, if_true, if_false, ↓reduceIte, forall_const, implies_true, reduceCtorEq, forall_eq_or_imp, forall_eq, ne_eq, h0]) (by simp (maxSteps := 2000000) only [↓ctl, evl, val, valP, own, ↓ctlM, tys, Try.ntmps89, Try.results89, ↓V_convert, ↓V_bytes, stdl, cond_true, cond_false, Nat.reduceEqDiff, Nat.reduceAdd, Nat.reduceMul, Nat.reduceSub, Nat.reduceLT, Int.reduceEq, Int.reduceLT, Int.reduceLE, Int.reduceNeg, Nat.reduceLeDiff, if_true, if_false, ↓reduceIte, forall_const, implies_true, reduceCtorEq, forall_eq_or_imp, forall_eq, ne_eq]) trivial ?_
          simp (maxSteps := 2000000) only [↓ctl, evl, val, valP, own, ↓ctlM, tys, Try.ntmps89, Try.results89, ↓V_convert, ↓V_bytes, stdl, cond_true, cond_false, Nat.reduceEqDiff, Nat.reduceAdd, Nat.reduceMul, Nat.reduceSub, Nat.reduceLT, Int.reduceEq, Int.reduceLT, Int.reduceLE, Int.reduceNeg, Nat.reduceLeDiff, if_true, if_false, ↓reduceIte, forall_const, implies_true, reduceCtorEq, forall_eq_or_imp, forall_eq, ne_eq, dat, hlt, h0]
          refine VM_callI mixed (cap := []) (fun _ => c_CompareI 0 0) (by simp (maxSteps := 2000000) (contextual := true) only [↓ctl, evl, val, valP, own, ↓ctlM, tys, Try.ntmps89, Try.results89, ↓V_convert, ↓V_bytes, stdl, cond_true, cond_false, Nat.reduceEqDiff, Nat.reduceAdd, Nat.reduceMul, Nat.reduceSub, Nat.reduceLT, Int.reduceEq, Int.reduceLT, Int.reduceLE, Int.reduceNeg, Nat.reduceLeDiff, if_true, if_false, ↓reduceIte, forall_const, implies_true, reduceCtorEq, forall_eq_or_imp, forall_eq, ne_eq, h0]) (by simp (maxSteps := 2000000) only [↓ctl, evl, val, valP, own, ↓ctlM, tys, Try.ntmps89, Try.results89, ↓V_convert, ↓V_bytes, stdl, cond_true, cond_false, Nat.reduceEqDiff, Nat.reduceAdd, Nat.reduceMul, Nat.reduceSub, Nat.reduceLT, Int.reduceEq, Int.reduceLT, Int.reduceLE, Int.reduceNeg, Nat.reduceLeDiff, if_true, if_false, ↓reduceIte, forall_const, implies_true, reduceCtorEq, forall_eq_or_imp, forall_eq, ne_eq, h0]) (by simp (maxSteps := 2000000) only [↓ctl, evl, val, valP, own, ↓ctlM, tys, Try.ntmps89, Try.results89, ↓V_convert, ↓V_bytes, stdl, cond_true, cond_false, Nat.reduceEqDiff, Nat.reduceAdd, Nat.reduceMul, Nat.reduceSub, Nat.reduceLT, Int.reduceEq, Int.reduceLT, Int.reduceLE, Int.reduceNeg, Nat.reduceLeDiff, if_true, if_false, ↓reduceIte, forall_const, implies_true, reduceCtorEq, forall_eq_or_imp, forall_eq, ne_eq]) trivial ?_
          simp (maxSteps := 2000000) only [↓ctl, evl, val, valP, own, ↓ctlM, tys, Try.ntmps89, Try.results89, ↓V_convert, ↓V_bytes, stdl, cond_true, cond_false, Nat.reduceEqDiff, Nat.reduceAdd, Nat.reduceMul, Nat.reduceSub, Nat.reduceLT, Int.reduceEq, Int.reduceLT, Int.reduceLE, Int.reduceNeg, Nat.reduceLeDiff, if_true, if_false, ↓reduceIte, forall_const, implies_true, reduceCtorEq, forall_eq_or_imp, forall_eq, ne_eq, dat, h0, litChunk]
          refine VM_callI mixed (cap := []) (fun _ => c_Or 0 0) (by simp (maxSteps := 2000000) (contextual := true) only [↓ctl, evl, val, valP, own, ↓ctlM, tys, Try.ntmps89, Try.results89, ↓V_convert, ↓V_bytes, stdl, cond_true, cond_false, Nat.reduceEqDiff, Nat.reduceAdd, Nat.reduceMul, Nat.reduceSub, Nat.reduceLT, Int.reduceEq, Int.reduceLT, Int.reduceLE, Int.reduceNeg, Nat.reduceLeDiff, if_true, if_false, ↓reduceIte, forall_const, implies_true, reduceCtorEq, forall_eq_or_imp, forall_eq, ne_eq, h0]) (by simp (maxSteps := 2000000) only [↓ctl, evl, val, valP, own, ↓ctlM, tys, Try.ntmps89, Try.results89, ↓V_convert, ↓V_bytes, stdl, cond_true, cond_false, Nat.reduceEqDiff, Nat.reduceAdd, Nat.reduceMul, Nat.reduceSub, Nat.reduceLT, Int.reduceEq, Int.reduceLT, Int.reduceLE, Int.reduceNeg, Nat.reduceLeDiff, if_true, if_false, ↓reduceIte, forall_const, implies_true, reduceCtorEq, forall_eq_or_imp, forall_eq, ne_eq, h0]) (by simp (maxSteps := 2000000) only [↓ctl, evl, val, valP, own, ↓ctlM, tys, Try.ntmps89, Try.results89, ↓V_convert, ↓V_bytes, stdl, cond_true, cond_false, Nat.reduceEqDiff, Nat.reduceAdd, Nat.reduceMul, Nat.reduceSub, Nat.reduceLT, Int.reduceEq, Int.reduceLT, Int.reduceLE, Int.reduceNeg, Nat.reduceLeDiff, if_true, if_false, ↓reduceIte, forall_const, implies_true, reduceCtorEq, forall_eq_or_imp, forall_eq, ne_eq]) trivial ?_
          simp (maxSteps := 2000000) only [↓ctl, evl, val, valP, own, ↓ctlM, tys, Try.ntmps89, Try.results89, ↓V_convert, ↓V_bytes, stdl, cond_true, cond_false, Nat.reduceEqDiff, Nat.reduceAdd, Nat.reduceMul, Nat.reduceSub, Nat.reduceLT, Int.reduceEq, Int.reduceLT, Int.reduceLE, Int.reduceNeg, Nat.reduceLeDiff, if_true, if_false, ↓reduceIte, forall_const, implies_true, reduceCtorEq, forall_eq_or_imp, forall_eq, ne_eq, h0]
          refine V_backI ⟨i + 1, by omega, ?_⟩ (by show _ - (i + 1) < _; omega) (weakI ?_)
          · have hd : decide (i = 0) = true := by simp [hi0]
            rw [hx, hst, hok', hd]; grind
          · simp (maxSteps := 2000000) only [↓ctl, evl, val, valP, own, ↓ctlM, tys, Try.ntmps89, Try.results89, ↓V_convert, ↓V_bytes, stdl, cond_true, cond_false, Nat.reduceEqDiff, Nat.reduceAdd, Nat.reduceMul, Nat.reduceSub, Nat.reduceLT, Int.reduceEq, Int.reduceLT, Int.reduceLE, Int.reduceNeg, Nat.reduceLeDiff, if_true, if_false, ↓reduceIte, forall_const, implies_true, reduceCtorEq, forall_eq_or_imp, forall_eq, ne_eq]
            rw [wrap_id (by omega) (by omega)]
            rfl
      · have : entryOk (l.getD i default) = false := by unfold entryOk; grind
        unfold isAcl; grind
      · have hok' : entryOk (l.getD i default) = true := by unfold entryOk inR; grind
        refine VM_start mixed 21 (by kernel_rfl) (by kernel_rfl) trivial ?_
        by_cases h0 : (i : Int) > 0
        · have e4 : (0 : Int) ≤ i - 1 := by omega
          have e5 : (i : Int) - 1 < l.length := by omega
          simp (maxSteps := 2000000) only [↓ctl, evl, val, valP, own, ↓ctlM, tys, Try.ntmps89, Try.results89, ↓V_convert, ↓V_bytes, stdl, cond_true, cond_false, Nat.reduceEqDiff, Nat.reduceAdd, Nat.reduceMul, Nat.reduceSub, Nat.reduceLT, Int.reduceEq, Int.reduceLT, Int.reduceLE, Int.reduceNeg, Nat.reduceLeDiff, if_true, if_false, ↓reduceIte, forall_const, implies_true, reduceCtorEq, forall_eq_or_imp, forall_eq, ne_eq, dat, hlt, e1, e2, e3, e4, e5, h0]
          refine VM_callI mixed (cap := []) (fun _ => c_CompareI (l.getD (i - 1) default).tag (l.getD i default).tag) (by simp (maxSteps := 2000000) (contextual := true) only [↓ctl, evl, val, valP, own, ↓ctlM, tys, Try.ntmps89, Try.results89, ↓V_convert, ↓V_bytes, stdl, cond_true, cond_false, Nat.reduceEqDiff, Nat.reduceAdd, Nat.reduceMul, Nat.reduceSub, Nat.reduceLT, Int.reduceEq, Int.reduceLT, Int.reduceLE, Int.reduceNeg, Nat.reduceLeDiff, if_true, if_false, ↓reduceIte, forall_const, implies_true, reduceCtorEq, forall_eq_or_imp, forall_eq, ne_eq, h0]) (by simp (maxSteps := 2000000) only [↓ctl, evl, val, valP, own, ↓ctlM, tys, Try.ntmps89, Try.results89, ↓V_convert, ↓V_bytes, stdl, cond_true, cond_false, Nat.reduceEqDiff, Nat.reduceAdd, Nat.reduceMul, Nat.reduceSub, Nat.reduceLT, Int.reduceEq, Int.reduceLT, Int.reduceLE, Int.reduceNeg, Nat.reduceLeDiff, if_true, if_false, ↓reduceIte, forall_const, implies_true, reduceCtorEq, forall_eq_or_imp, forall_eq, ne_eq, h0]) (by simp (maxSteps := 2000000) only [↓ctl, evl, val, valP, own, ↓ctlM, tys, Try.ntmps89, Try.results89, ↓V_convert, ↓V_bytes, stdl, cond_true, cond_false, Nat.reduceEqDiff, Nat.reduceAdd, Nat.reduceMul, Nat.reduceSub, Nat.reduceLT, Int.reduceEq, Int.reduceLT, Int.reduceLE, Int.reduceNeg, Nat.reduceLeDiff, if_true, if_false, ↓reduceIte, forall_const, implies_true, reduceCtorEq, forall_eq_or_imp, forall_eq, ne_eq]) trivial ?_
          simp (maxSteps := 2000000) only [↓ctl, evl, val, valP, own, ↓ctlM, tys, Try.ntmps89, Try.results89, ↓V_convert, ↓V_bytes, stdl, cond_true, cond_false, Nat.reduceEqDiff, Nat.reduceAdd, Nat.reduceMul, Nat.reduceSub, Nat.reduceLT, Int.reduceEq, Int.reduceLT, Int.reduceLE, Int.reduceNeg, Nat.reduceLeDiff, if_true, if_false, ↓reduceIte, forall_const, implies_true, reduceCtorEq, forall_eq_or_imp, forall_eq, ne_eq, dat, hlt, e1, e2, e3, e4, e5, h0]
          refine VM_callI mixed (cap := []) (fun _ => c_CompareI (l.getD (i - 1) default).id (l.getD i default).id) (by simp (maxSteps := 2000000) (contextual := true) only [↓ctl, evl, val, valP, own, ↓ctlM, tys, Try.ntmps89, Try.results89, ↓V_convert, ↓V_bytes, stdl, cond_true, cond_false, Nat.reduceEqDiff, Nat.reduceAdd, Nat.reduceMul, Nat.reduceSub, Nat.reduceLT, Int.reduceEq, Int.reduceLT, Int.reduceLE, Int.reduceNeg, Nat.reduceLeDiff, if_true, if_false, ↓reduceIte, forall_const, implies_true, reduceCtorEq, forall_eq_or_imp, forall_eq, ne_eq, h0]) (by simp (maxSteps := 2000000) only [↓ctl, evl, val, valP, own, ↓ctlM, tys, Try.ntmps89, Try.results89, ↓V_convert, ↓V_bytes, stdl, cond_true, cond_false, Nat.reduceEqDiff, Nat.reduceAdd, Nat.reduceMul, Nat.reduceSub, Nat.reduceLT, Int.reduceEq, Int.reduceLT, Int.reduceLE, Int.reduceNeg, Nat.reduceLeDiff, if_true, if_false, ↓reduceIte, forall_const, implies_true, reduceCtorEq, forall_eq_or_imp, forall_eq, ne_eq, h0]) (by simp (maxSteps := 2000000) only [↓ctl, evl, val, valP, own, ↓ctlM, tys, Try.ntmps89, Try.results89, ↓V_convert, ↓V_bytes, stdl, cond_true, cond_false, Nat.reduceEqDiff, Nat.reduceAdd, Nat.reduceMul, Nat.reduceSub, Nat.reduceLT, Int.reduceEq, Int.reduceLT, Int.reduceLE, Int.reduceNeg, Nat.reduceLeDiff, if_true, if_false, ↓reduceIte, forall_const, implies_true, reduceCtorEq, forall_eq_or_imp, forall_eq, ne_eq]) trivial ?_
          simp (maxSteps := 2000000) only [↓ctl, evl, val, valP, own, ↓ctlM, tys, Try.ntmps89, Try.results89, ↓V_convert, ↓V_bytes, stdl, cond_true, cond_false, Nat.reduceEqDiff, Nat.reduceAdd, Nat.reduceMul, Nat.reduceSub, Nat.reduceLT, Int.reduceEq, Int.reduceLT, Int.reduceLE, Int.reduceNeg, Nat.reduceLeDiff, if_true, if_false, ↓reduceIte, forall_const, implies_true, reduceCtorEq, forall_eq_or_imp, forall_eq, ne_eq, dat, h0, litChunk]
          refine VM_callI mixed (cap := []) (fun _ => c_Or (cmpI (l.getD (i - 1) default).tag (l.getD i default).tag) (cmpI (l.getD (i - 1) default).id (l.getD i default).id)) (by simp (maxSteps := 2000000) (contextual := true) only [↓ctl, evl, val, valP, own, ↓ctlM, tys, Try.ntmps89, Try.results89, ↓V_convert, ↓V_bytes, stdl, cond_true, cond_false, Nat.reduceEqDiff, Nat.reduceAdd, Nat.reduceMul, Nat.reduceSub, Nat.reduceLT, Int.reduceEq, Int.reduceLT, Int.reduceLE, Int.reduceNeg, Nat.reduceLeDiff, if_true, if_false, ↓reduceIte, forall_const, implies_true, reduceCtorEq, forall_eq_or_imp, forall_eq, ne_eq, h0]) (by simp (maxSteps := 2000000) only [↓ctl, evl, val, valP, own, ↓ctlM, tys, Try.ntmps89, Try.results89, ↓V_convert, ↓V_bytes, stdl, cond_true, cond_false, Nat.reduceEqDiff, Nat.reduceAdd, Nat.reduceMul, Nat.reduceSub, Nat.reduceLT, Int.reduceEq, Int.reduceLT, Int.reduceLE, Int.reduceNeg, Nat.reduceLeDiff, if_true, if_false, ↓reduceIte, forall_const, implies_true, reduceCtorEq, forall_eq_or_imp, forall_eq, ne_eq, h0]) (by simp (maxSteps := 2000000) only [↓ctl, evl, val, valP, own, ↓ctlM, tys, Try.ntmps89, Try.results89, ↓V_convert, ↓V_bytes, stdl, cond_true, cond_false, Nat.reduceEqDiff, Nat.reduceAdd, Nat.reduceMul, Nat.reduceSub, Nat.reduceLT, Int.reduceEq, Int.reduceLT, Int.reduceLE, Int.reduceNeg, Nat.reduceLeDiff, if_true, if_false, ↓reduceIte, forall_const, implies_true, reduceCtorEq, forall_eq_or_imp, forall_eq, ne_eq]) trivial ?_
          simp (maxSteps := 2000000) only [↓ctl, evl, val, valP, own, ↓ctlM, tys, Try.ntmps89, Try.results89, ↓V_convert, ↓V_bytes, stdl, cond_true, cond_false, Nat.reduceEqDiff, Nat.reduceAdd, Nat.reduceMul, Nat.reduceSub, Nat.reduceLT, Int.reduceEq, Int.reduceLT, Int.reduceLE, Int.reduceNeg, Nat.reduceLeDiff, if_true, if_false, ↓reduceIte, forall_const, implies_true, reduceCtorEq, forall_eq_or_imp, forall_eq, ne_eq, h0]
          have hd : decide (i = 0) = false := by simp; omega
          have hcmp : ((if cmpI (l.getD (i - 1) default).tag (l.getD i default).tag = 0 then cmpI (l.getD (i - 1) default).id (l.getD i default).id else cmpI (l.getD (i - 1) default).tag (l.getD i default).tag) ≥ 0) ↔ aclLt (l.getD (i - 1) default) (l.getD i default) = false := by
            unfold cmpI aclLt; simp only [decide_eq_false_iff_not]; split <;> split <;> omega
          refine ⟨fun h => ?_, fun h => ?_⟩
          · rw [hcmp] at h
            rw [hd, h] at hst
            unfold isAcl; grind
          · rw [hcmp] at h
            refine V_backI ⟨i + 1, by omega, ?_⟩ (by show _ - (i + 1) < _; omega) (weakI ?_)
            · rw [hx, hst, hok']; grind
            · simp (maxSteps := 2000000) only [↓ctl, evl, val, valP, own, ↓ctlM, tys, Try.ntmps89, Try.results89, ↓V_convert, ↓V_bytes, stdl, cond_true, cond_false, Nat.reduceEqDiff, Nat.reduceAdd, Nat.reduceMul, Nat.reduceSub, Nat.reduceLT, Int.reduceEq, Int.reduceLT, Int.reduceLE, Int.reduceNeg, Nat.reduceLeDiff, if_true, if_false, ↓reduceIte, forall_const, implies_true, reduceCtorEq, forall_eq_or_imp, forall_eq, ne_eq]
              rw [wrap_id (by omega) (by omega)]
              rfl
        · have hi0 : i = 0 := by omega
          simp (maxSteps := 2000000) only [↓ctl, evl, val, valP, own, ↓ctlM, tys, Try.ntmps89, Try.results89, ↓V_convert, ↓V_bytes, stdl, cond_true, cond_false, Nat.reduceEqDiff, Nat.reduceAdd, Nat.reduceMul, Nat.reduceSub, Nat.reduceLT, Int.reduceEq, Int.reduceLT, Int.reduceLE, Int.reduceNeg, Nat.reduceLeDiff, if_true, if_false, ↓reduceIte, forall_const, implies_true, reduceCtorEq, forall_eq_or_imp, forall_eq, ne_eq, dat, hlt, h0]
          refine VM_callI mixed (cap := []) (fun _ => c_CompareI 0 0) (by simp (maxSteps := 2000000) (contextual := true) only [↓ctl, evl, val, valP, own, ↓ctlM, tys, Try.ntmps89, Try.results89, ↓V_convert, ↓V_bytes, stdl, cond_true, cond_false, Nat.reduceEqDiff, Nat.reduceAdd, Nat.reduceMul, Nat.reduceSub, Nat.reduceLT, Int.reduceEq, Int.reduceLT, Int.reduceLE, Int.reduceNeg, Nat.reduceLeDiff, if_true, if_false, ↓reduceIte, forall_const, implies_true, reduceCtorEq, forall_eq_or_imp, forall_eq, ne_eq, h0]) (by simp (maxSteps := 2000000) only [↓ctl, evl, val, valP, own, ↓ctlM, tys, Try.ntmps89, Try.results89, ↓V_convert, ↓V_bytes, stdl, cond_true, cond_false, Nat.reduceEqDiff, Nat.reduceAdd, Nat.reduceMul, Nat.reduceSub, Nat.reduceLT, Int.reduceEq, Int.reduceLT, Int.reduceLE, Int.reduceNeg, Nat.reduceLeDiff, if_true, if_false, ↓reduceIte, forall_const, implies_true, reduceCtorEq, forall_eq_or_imp, forall_eq, ne_eq, h0]) (by simp (maxSteps := 2000000) only [↓ctl, evl, val, valP, own, ↓ctlM, tys, Try.ntmps89, Try.results89, ↓V_convert, ↓V_bytes, stdl, cond_true, cond_false, Nat.reduceEqDiff, Nat.reduceAdd, Nat.reduceMul, Nat.reduceSub, Nat.reduceLT, Int.reduceEq, Int.reduceLT, Int.reduceLE, Int.reduceNeg, Nat.reduceLeDiff, if_true, if_false, ↓reduceIte, forall_const, implies_true, reduceCtorEq, forall_eq_or_imp, forall_eq, ne_eq]) trivial ?_
          simp (maxSteps := 2000000) only [↓ctl, evl, val, valP, own, ↓ctlM, tys, Try.ntmps89, Try.results89, ↓V_convert, ↓V_bytes, stdl, cond_true, cond_false, Nat.reduceEqDiff, Nat.reduceAdd, Nat.reduceMul, Nat.reduceSub, Nat.reduceLT, Int.reduceEq, Int.reduceLT, Int.reduceLE, Int.reduceNeg, Nat.reduceLeDiff, if_true, if_false, ↓reduceIte, forall_const, implies_true, reduceCtorEq, forall_eq_or_imp, forall_eq, ne_eq, dat, hlt, h0]
          refine VM_callI mixed (cap := []) (fun _ => c_CompareI 0 0) (by simp (maxSteps := 2000000) (contextual := true) only [↓ctl, evl, val, valP, own, ↓ctlM, tys, Try.ntmps89, Try.results89, ↓V_convert, ↓V_bytes, stdl, cond_true, cond_false, Nat.reduceEqDiff, Nat.reduceAdd, Nat.reduceMul, Nat.reduceSub, Nat.reduceLT, Int.reduceEq, Int.reduceLT, Int.reduceLE, Int.reduceNeg, Nat.reduceLeDiff, if_true, if_false, ↓reduceIte, forall_const, implies_true, reduceCtorEq, forall_eq_or_imp, forall_eq, ne_eq, h0]) (by simp (maxSteps := 2000000) only [↓ctl, evl, val, valP, own, ↓ctlM, tys, Try.ntmps89, Try.results89, ↓V_convert, ↓V_bytes, stdl, cond_true, cond_false, Nat.reduceEqDiff, Nat.reduceAdd, Nat.reduceMul, Nat.reduceSub, Nat.reduceLT, Int.reduceEq, Int.reduceLT, Int.reduceLE, Int.reduceNeg, Nat.reduceLeDiff, if_true, if_false, ↓reduceIte, forall_const, implies_true, reduceCtorEq, forall_eq_or_imp, forall_eq, ne_eq, h0]) (by simp (maxSteps := 2000000) only [↓ctl, evl, val, valP, own, ↓ctlM, tys, Try.ntmps89, Try.results89, ↓V_convert, ↓V_bytes, stdl, cond_true, cond_false, Nat.reduceEqDiff, Nat.reduceAdd, Nat.reduceMul, Nat.reduceSub, Nat.reduceLT, Int.reduceEq, Int.reduceLT, Int.reduceLE, Int.reduceNeg, Nat.reduceLeDiff, if_true, if_false, ↓reduceIte, forall_const, implies_true, reduceCtorEq, forall_eq_or_imp, forall_eq, ne_eq]) trivial ?_
          simp (maxSteps := 2000000) only [↓ctl, evl, val, valP, own, ↓ctlM, tys, Try.ntmps89, Try.results89, ↓V_convert, ↓V_bytes, stdl, cond_true, cond_false, Nat.reduceEqDiff, Nat.reduceAdd, Nat.reduceMul, Nat.reduceSub, Nat.reduceLT, Int.reduceEq, Int.reduceLT, Int.reduceLE, Int.reduceNeg, Nat.reduceLeDiff, if_true, if_false, ↓reduceIte, forall_const, implies_true, reduceCtorEq, forall_eq_or_imp, forall_eq, ne_eq, dat, h0, litChunk]
          refine VM_callI mixed (cap := []) (fun _ => c_Or 0 0) (by simp (maxSteps := 2000000) (contextual := true) only [↓ctl, evl, val, valP, own, ↓ctlM, tys, Try.ntmps89, Try.results89, ↓V_convert, ↓V_bytes, stdl, cond_true, cond_false, Nat.reduceEqDiff, Nat.reduceAdd, Nat.reduceMul, Nat.reduceSub, Nat.reduceLT, Int.reduceEq, Int.reduceLT, Int.reduceLE, Int.reduceNeg, Nat.reduceLeDiff, if_true, if_false, ↓reduceIte, forall_const, implies_true, reduceCtorEq, forall_eq_or_imp, forall_eq, ne_eq, h0]) (by simp (maxSteps := 2000000) only [↓ctl, evl, val, valP, own, ↓ctlM, tys, Try.ntmps89, Try.results89, ↓V_convert, ↓V_bytes, stdl, cond_true, cond_false, Nat.reduceEqDiff, Nat.reduceAdd, Nat.reduceMul, Nat.reduceSub, Nat.reduceLT, Int.reduceEq, Int.reduceLT, Int.reduceLE, Int.reduceNeg, Nat.reduceLeDiff, if_true, if_false, ↓reduceIte, forall_const, implies_true, reduceCtorEq, forall_eq_or_imp, forall_eq, ne_eq, h0]) (by simp (maxSteps := 2000000) only [↓ctl, evl, val, valP, own, ↓ctlM, tys, Try.ntmps89, Try.results89, ↓V_convert, ↓V_bytes, stdl, cond_true, cond_false, Nat.reduceEqDiff, Nat.reduceAdd, Nat.reduceMul, Nat.reduceSub, Nat.reduceLT, Int.reduceEq, Int.reduceLT, Int.reduceLE, Int.reduceNeg, Nat.reduceLeDiff, if_true, if_false, ↓reduceIte, forall_const, implies_true, reduceCtorEq, forall_eq_or_imp, forall_eq, ne_eq]) trivial ?_
          simp (maxSteps := 2000000) only [↓ctl, evl, val, valP, own, ↓ctlM, tys, Try.ntmps89, Try.results89, ↓V_convert, ↓V_bytes, stdl, cond_true, cond_false, Nat.reduceEqDiff, Nat.reduceAdd, Nat.reduceMul, Nat.reduceSub, Nat.reduceLT, Int.reduceEq, Int.reduceLT, Int.reduceLE, Int.reduceNeg, Nat.reduceLeDiff, if_true, if_false, ↓reduceIte, forall_const, implies_true, reduceCtorEq, forall_eq_or_imp, forall_eq, ne_eq, h0]
          refine V_backI ⟨i + 1, by omega, ?_⟩ (by show _ - (i + 1) < _; omega) (weakI ?_)
          · have hd : decide (i = 0) = true := by simp [hi0]
            rw [hx, hst, hok', hd]; grind
          · simp (maxSteps := 2000000) only [↓ctl, evl, val, valP, own, ↓ctlM, tys, Try.ntmps89, Try.results89, ↓V_convert, ↓V_bytes, stdl, cond_true, cond_false, Nat.reduceEqDiff, Nat.reduceAdd, Nat.reduceMul, Nat.reduceSub, Nat.reduceLT, Int.reduceEq, Int.reduceLT, Int.reduceLE, Int.reduceNeg, Nat.reduceLeDiff, if_true, if_false, ↓reduceIte, forall_const, implies_true, reduceCtorEq, forall_eq_or_imp, forall_eq, ne_eq]
            rw [wrap_id (by omega) (by omega)]
            rfl
      · have : entryOk (l.getD i default) = false := by unfold entryOk; grind
        unfold isAcl; grind
    · have hn : i = l.length := by omega
      have hx' := hx.trans (aclFrom_end hlt)
      by_cases h0 : l.length = 0
      · simp (maxSteps := 2000000) only [↓ctl, evl, val, valP, own, ↓ctlM, tys, Try.ntmps89, Try.results89, ↓V_convert, ↓V_bytes, stdl, cond_true, cond_false, Nat.reduceEqDiff, Nat.reduceAdd, Nat.reduceMul, Nat.reduceSub, Nat.reduceLT, Int.reduceEq, Int.reduceLT, Int.reduceLE, Int.reduceNeg, Nat.reduceLeDiff, if_true, if_false, ↓reduceIte, forall_const, implies_true, reduceCtorEq, forall_eq_or_imp, forall_eq, ne_eq, hlt, h0]
        simp [isAcl, hx', h0]
      have e1 : IntKind.i64.wrap ((l.length : Int) - 1) = l.length - 1 := wrap_id (by omega) (by omega)
      have e2 : ((l.length : Int) - 1).toNat = l.length - 1 := by omega
      have e3 : l.length - 1 < l.length := by omega
      simp (maxSteps := 2000000) only [↓ctl, evl, val, valP, own, ↓ctlM, tys, Try.ntmps89, Try.results89, ↓V_convert, ↓V_bytes, stdl, cond_true, cond_false, Nat.reduceEqDiff, Nat.reduceAdd, Nat.reduceMul, Nat.reduceSub, Nat.reduceLT, Int.reduceEq, Int.reduceLT, Int.reduceLE, Int.reduceNeg, Nat.reduceLeDiff, if_true, if_false, ↓reduceIte, forall_const, implies_true, reduceCtorEq, forall_eq_or_imp, forall_eq, ne_eq, dat, hlt, e1, e2, e3]
      refine ⟨fun h => ⟨h, by omega, by omega⟩, ?_⟩
      simp only [isAcl, hx', Bool.true_and]
      grind
end Go.Proofs.Ytobnbajakenbeaa


/- Contracts: numbers as bytes. -/
set_option linter.all false
set_option maxRecDepth 10000
namespace Go.Proofs.Ytobnbajakenbeaa
open Go Go.Eng

/-- The last w bytes of a number, the highest one first. -/
def beBytes (n : Nat) : Nat → List UInt8
  | 0 => []
  | w + 1 => beBytes (n / 256) w ++ [UInt8.ofNat (n % 256)]
theorem beBytes_length (w : Nat) : ∀ n, (beBytes n w).length = w := by
  induction w with
  | zero => intro n; rfl
  | succ w ih => intro n; simp [beBytes, ih]
def putNum (n : Int) (w : Nat) : List UInt8 := if 0 ≤ n ∧ n < 2 ^ (8 * w) then beBytes n.toNat w else []
theorem shl_one (w : Nat) (h : 1 ≤ w ∧ w ≤ 6) : shlV .i64 1 (IntKind.i64.wrap (8 * (w : Int))) = 2 ^ (8 * w) := by
  have : w = 1 ∨ w = 2 ∨ w = 3 ∨ w = 4 ∨ w = 5 ∨ w = 6 := by omega
  rcases this with rfl | rfl | rfl | rfl | rfl | rfl <;> decide
theorem wrap_u64 {x : Int} (h1 : 0 ≤ x) (h2 : x ≤ 9223372036854775807) : IntKind.u64.wrap x = x := by
  unfold IntKind.wrap
  simp only [IntKind.bits, IntKind.signed]
  simp
  omega
theorem set_rep (x : UInt8) (bs : List UInt8) : ∀ k, (List.replicate (k + 1) 0 ++ bs).set k x = List.replicate k 0 ++ x :: bs
  | 0 => rfl
  | k + 1 => by
    rw [List.replicate_succ, List.cons_append, List.set_cons_succ, set_rep x bs k]
    rfl
theorem set_rows (m : Nat) (bs : List UInt8) (k : Nat) : ((List.replicate (k + 1) 0 ++ bs).map byteRow).set k [.v (.int .u8 ((m : Int) % 256))] = (List.replicate k 0 ++ UInt8.ofNat (m % 256) :: bs).map byteRow := by
  have e : [Cell.v (.int .u8 ((m : Int) % 256))] = byteRow (UInt8.ofNat (m % 256)) := by
    simp only [byteRow]
    have : (UInt8.ofNat (m % 256)).toNat = m % 256 := by simp
    rw [this]; simp
  rw [e, ← List.map_set, set_rep]
theorem put_done (w : Nat) (bs : List UInt8) (h : bs.length = w) : (isBytes (List.take w (bs.map byteRow)) ∧ w = (List.take w (bs.map byteRow)).length) ∧ (List.take w (bs.map byteRow)).map rowByte = bs := by
  have e : List.take w (bs.map byteRow) = bs.map byteRow := List.take_of_length_le (by simp [h])
  rw [e]
  exact ⟨⟨⟨bs, rfl⟩, by simp [h]⟩, rowBytes_map bs⟩
theorem c_PutNumber (n : Int) (w : Nat) (hn : In64 n) (hw : 1 ≤ w ∧ w ≤ 6) : Gives Go.Proofs.Try.prog 58 [I n, I w] (str (putNum n w)) := by
  refine gives_of_V mixed Go.Proofs.Try.call58 Go.Proofs.Try.func58 rfl (by rw [Go.Proofs.Try.ntmps58]; simp) ?_
  have w1 : ¬ (w : Int) < 1 := by omega
  have w2 : ¬ (w : Int) > 6 := by omega
  have w3 : (0 : Int) ≤ w := by omega
  have w4 : (w : Int) ≤ 1099511627776 := by omega
  have w5 : (0 : Int) ≤ IntKind.i64.wrap (8 * (w : Int)) := by rw [wrap_id (by omega) (by omega)]; omega
  simp (maxSteps := 2000000) only [↓ctl, evl, val, valP, own, tys, Try.ntmps58, Try.results58, ↓V_convert, ↓V_bytes, stdl, cond_true, cond_false, Nat.reduceEqDiff, Nat.reduceAdd, Nat.reduceMul, Nat.reduceSub, Nat.reduceLT, Int.reduceEq, Int.reduceLT, Int.reduceLE, Int.reduceNeg, Nat.reduceLeDiff, if_true, if_false, ↓reduceIte, forall_const, implies_true, reduceCtorEq, forall_eq_or_imp, forall_eq, ne_eq, w1, w2, w3, w4, w5, shl_one w hw]
  refine ⟨fun h => ?_, fun h => ⟨Nat.le_refl _, ?_⟩⟩
  · unfold putNum; rw [if_neg (by omega)]
  have hbig : (2 : Int) ^ (8 * w) ≤ 281474976710656 := by
    have : w = 1 ∨ w = 2 ∨ w = 3 ∨ w = 4 ∨ w = 5 ∨ w = 6 := by omega
    rcases this with rfl | rfl | rfl | rfl | rfl | rfl <;> decide
  have hput : putNum n w = beBytes n.toNat w := by unfold putNum; rw [if_pos (by omega)]
  rw [hput]
  refine V_loopI mixed (ι := {p : Nat × Nat × List UInt8 // p.1 + p.2.2.length = w ∧ p.2.1 ≤ 9223372036854775807 ∧ beBytes n.toNat w = beBytes p.2.1 p.1 ++ p.2.2}) (fun p => ⟨[(0, true, I p.1.2.1), (5, true, .sl 0 1 0 w), (6, true, I ((p.1.1 : Int) - 1))], [(0, .row 5 1 ((List.replicate p.1.1 0 ++ p.1.2.2).map byteRow))], 1, 41⟩) (fun p => p.1.1) ⟨(w, n.toNat, []), by simp; omega⟩ ?_ ?_ ?_
  · refine weakI ?_
    simp (maxSteps := 2000000) only [↓ctl, evl, val, valP, own, tys, Try.ntmps58, Try.results58, ↓V_convert, ↓V_bytes, stdl, cond_true, cond_false, Nat.reduceEqDiff, Nat.reduceAdd, Nat.reduceMul, Nat.reduceSub, Nat.reduceLT, Int.reduceEq, Int.reduceLT, Int.reduceLE, Int.reduceNeg, Nat.reduceLeDiff, if_true, if_false, ↓reduceIte, forall_const, implies_true, reduceCtorEq, forall_eq_or_imp, forall_eq, ne_eq]
    refine ⟨⟨by omega, ?_⟩, ?_⟩
    · exact wrap_id (by omega) (by omega)
    · simp [byteRow]
  · trivial
  · rintro ⟨⟨j, m, bs⟩, hj, hm, hb⟩
    simp only at hj hm hb
    by_cases h0 : j = 0
    · have g1 : ¬ ((j : Int) - 1 ≥ 0) := by omega
      subst h0
      simp (maxSteps := 2000000) only [↓ctl, evl, val, valP, own, tys, Try.ntmps58, Try.results58, ↓V_convert, ↓V_bytes, stdl, cond_true, cond_false, Nat.reduceEqDiff, Nat.reduceAdd, Nat.reduceMul, Nat.reduceSub, Nat.reduceLT, Int.reduceEq, Int.reduceLT, Int.reduceLE, Int.reduceNeg, Nat.reduceLeDiff, if_true, if_false, ↓reduceIte, forall_const, implies_true, reduceCtorEq, forall_eq_or_imp, forall_eq, ne_eq, g1, List.replicate_zero]
      have := put_done w bs (by omega)
      refine ⟨this.1, ?_⟩
      rw [this.2, hb]; rfl
    · have f1 : ((j : Int) - 1) ≥ 0 := by omega
      have f2 : ((j : Int) - 1).toNat = j - 1 := by omega
      have f3 : (0 : Int) ≤ (j : Int) - 1 := by omega
      have f4 : (j : Int) - 1 < w := by omega
      have f5 : j - 1 < (List.replicate j (0 : UInt8) ++ bs).length := by simp; omega
      simp (maxSteps := 2000000) only [↓ctl, evl, val, valP, own, tys, Try.ntmps58, Try.results58, ↓V_convert, ↓V_bytes, stdl, cond_true, cond_false, Nat.reduceEqDiff, Nat.reduceAdd, Nat.reduceMul, Nat.reduceSub, Nat.reduceLT, Int.reduceEq, Int.reduceLT, Int.reduceLE, Int.reduceNeg, Nat.reduceLeDiff, if_true, if_false, ↓reduceIte, forall_const, implies_true, reduceCtorEq, forall_eq_or_imp, forall_eq, ne_eq, f1, f2, f3, f4, f5, byteRow]
      obtain ⟨k, rfl⟩ : ∃ k, j = k + 1 := ⟨j - 1, by omega⟩
      refine V_backI ⟨(k, m / 256, UInt8.ofNat (m % 256) :: bs), ?_⟩ (by show k < k + 1; omega) (weakI ?_)
      · simp only [List.length_cons]; refine ⟨by omega, by omega, ?_⟩
        rw [hb, beBytes]; simp
      · simp (maxSteps := 2000000) only [↓ctl, evl, val, valP, own, tys, Try.ntmps58, Try.results58, ↓V_convert, ↓V_bytes, stdl, cond_true, cond_false, Nat.reduceEqDiff, Nat.reduceAdd, Nat.reduceMul, Nat.reduceSub, Nat.reduceLT, Int.reduceEq, Int.reduceLT, Int.reduceLE, Int.reduceNeg, Nat.reduceLeDiff, if_true, if_false, ↓reduceIte, forall_const, implies_true, reduceCtorEq, forall_eq_or_imp, forall_eq, ne_eq]
        refine ⟨⟨?_, ?_⟩, ?_⟩
        · simp only [shrV]
          show (m : Int).fdiv (2 ^ 8) = _
          rw [Int.fdiv_eq_ediv_of_nonneg _ (by decide)]; simp
        · rw [show ((k + 1 : Nat) : Int) - 1 - 1 = k - 1 by omega]; exact wrap_id (by omega) (by omega)
        · rw [wrap_u8', Nat.add_sub_cancel, set_rows]
theorem d_PutNumber (n : Int) (w : Nat) (hn : In64 n) (hw : 1 ≤ w ∧ w ≤ 6) : Gives Go.Proofs.Try.prog 82 [I n, I w] (str (putNum n w)) := by
  refine gives_of_V mixed Go.Proofs.Try.call82 Go.Proofs.Try.func82 rfl (by rw [Go.Proofs.Try.ntmps82]; simp) ?_
  have w1 : ¬ (w : Int) < 1 := by omega
  have w2 : ¬ (w : Int) > 6 := by omega
  have w3 : (0 : Int) ≤ w := by omega
  have w4 : (w : Int) ≤ 1099511627776 := by omega
  have w5 : IntKind.u64.wrap (w : Int) = w := wrap_u64 (by omega) (by omega)
  have w6 : IntKind.u64.wrap (8 * (w : Int)) = IntKind.i64.wrap (8 * w) := by rw [wrap_id (by omega) (by omega), wrap_u64 (by omega) (by omega)]
  have w7 : (0 : Int) ≤ IntKind.i64.wrap (8 * (w : Int)) := by rw [wrap_id (by omega) (by omega)]; omega
  have w8 : inR (w : Int) 1 6 = true := by unfold inR; simp; omega
  simp (maxSteps := 2000000) only [↓ctl, evl, val, valP, own, tys, Try.ntmps82, Try.results82, ↓V_convert, ↓V_bytes, stdl, cond_true, cond_false, Nat.reduceEqDiff, Nat.reduceAdd, Nat.reduceMul, Nat.reduceSub, Nat.reduceLT, Int.reduceEq, Int.reduceLT, Int.reduceLE, Int.reduceNeg, Nat.reduceLeDiff, if_true, if_false, ↓reduceIte, forall_const, implies_true, reduceCtorEq, forall_eq_or_imp, forall_eq, ne_eq]
  refine V_callF mixed (cap := []) (fun _ => d_l01In w 1 6) (by simp (maxSteps := 2000000) (contextual := true) only [↓ctl, evl, val, valP, own, tys, Try.ntmps82, Try.results82, ↓V_convert, ↓V_bytes, stdl, cond_true, cond_false, Nat.reduceEqDiff, Nat.reduceAdd, Nat.reduceMul, Nat.reduceSub, Nat.reduceLT, Int.reduceEq, Int.reduceLT, Int.reduceLE, Int.reduceNeg, Nat.reduceLeDiff, if_true, if_false, ↓reduceIte, forall_const, implies_true, reduceCtorEq, forall_eq_or_imp, forall_eq, ne_eq]) (by simp (maxSteps := 2000000) (contextual := true) only [↓ctl, evl, val, valP, own, tys, Try.ntmps82, Try.results82, ↓V_convert, ↓V_bytes, stdl, cond_true, cond_false, Nat.reduceEqDiff, Nat.reduceAdd, Nat.reduceMul, Nat.reduceSub, Nat.reduceLT, Int.reduceEq, Int.reduceLT, Int.reduceLE, Int.reduceNeg, Nat.reduceLeDiff, if_true, if_false, ↓reduceIte, forall_const, implies_true, reduceCtorEq, forall_eq_or_imp, forall_eq, ne_eq]) (by simp (maxSteps := 2000000) (contextual := true) only [↓ctl, evl, val, valP, own, tys, Try.ntmps82, Try.results82, ↓V_convert, ↓V_bytes, stdl, cond_true, cond_false, Nat.reduceEqDiff, Nat.reduceAdd, Nat.reduceMul, Nat.reduceSub, Nat.reduceLT, Int.reduceEq, Int.reduceLT, Int.reduceLE, Int.reduceNeg, Nat.reduceLeDiff, if_true, if_false, ↓reduceIte, forall_const, implies_true, reduceCtorEq, forall_eq_or_imp, forall_eq, ne_eq]) trivial ?_
  simp (maxSteps := 2000000) only [↓ctl, evl, val, valP, own, tys, Try.ntmps82, Try.results82, ↓V_convert, ↓V_bytes, stdl, cond_true, cond_false, Nat.reduceEqDiff, Nat.reduceAdd, Nat.reduceMul, Nat.reduceSub, Nat.reduceLT, Int.reduceEq, Int.reduceLT, Int.reduceLE, Int.reduceNeg, Nat.reduceLeDiff, if_true, if_false, ↓reduceIte, forall_const, implies_true, reduceCtorEq, forall_eq_or_imp, forall_eq, ne_eq, w3, w4, w5, w6, w7, w8, shl_one w hw]
  refine ⟨fun h => ?_, fun h => ⟨Nat.le_refl _, ?_⟩⟩
  · unfold putNum; rw [if_neg (by omega)]
  have hbig : (2 : Int) ^ (8 * w) ≤ 281474976710656 := by
    have : w = 1 ∨ w = 2 ∨ w = 3 ∨ w = 4 ∨ w = 5 ∨ w = 6 := by omega
    rcases this with rfl | rfl | rfl | rfl | rfl | rfl <;> decide
  have hput : putNum n w = beBytes n.toNat w := by unfold putNum; rw [if_pos (by omega)]
  rw [hput]
  refine V_loopI mixed (ι := {p : Nat × Nat × List UInt8 // p.1 + p.2.2.length = w ∧ p.2.1 ≤ 9223372036854775807 ∧ beBytes n.toNat w = beBytes p.2.1 p.1 ++ p.2.2}) (fun p => ⟨[(0, true, I p.1.2.1), (5, true, .sl 0 1 0 w), (6, true, I ((p.1.1 : Int) - 1))], [(0, .row 5 1 ((List.replicate p.1.1 0 ++ p.1.2.2).map byteRow))], 1, 40⟩) (fun p => p.1.1) ⟨(w, n.toNat, []), by simp; omega⟩ ?_ ?_ ?_
  · refine weakI ?_
    simp (maxSteps := 2000000) only [↓ctl, evl, val, valP, own, tys, Try.ntmps82, Try.results82, ↓V_convert, ↓V_bytes, stdl, cond_true, cond_false, Nat.reduceEqDiff, Nat.reduceAdd, Nat.reduceMul, Nat.reduceSub, Nat.reduceLT, Int.reduceEq, Int.reduceLT, Int.reduceLE, Int.reduceNeg, Nat.reduceLeDiff, if_true, if_false, ↓reduceIte, forall_const, implies_true, reduceCtorEq, forall_eq_or_imp, forall_eq, ne_eq]
    refine ⟨⟨by omega, ?_⟩, ?_⟩
    · exact wrap_id (by omega) (by omega)
    · simp [byteRow]
  · trivial
  · rintro ⟨⟨j, m, bs⟩, hj, hm, hb⟩
    simp only at hj hm hb
    by_cases h0 : j = 0
    · have g1 : ¬ ((j : Int) - 1 ≥ 0) := by omega
      subst h0
      simp (maxSteps := 2000000) only [↓ctl, evl, val, valP, own, tys, Try.ntmps82, Try.results82, ↓V_convert, ↓V_bytes, stdl, cond_true, cond_false, Nat.reduceEqDiff, Nat.reduceAdd, Nat.reduceMul, Nat.reduceSub, Nat.reduceLT, Int.reduceEq, Int.reduceLT, Int.reduceLE, Int.reduceNeg, Nat.reduceLeDiff, if_true, if_false, ↓reduceIte, forall_const, implies_true, reduceCtorEq, forall_eq_or_imp, forall_eq, ne_eq, g1, List.replicate_zero]
      have := put_done w bs (by omega)
      refine ⟨this.1, ?_⟩
      rw [this.2, hb]; rfl
    · have f1 : ((j : Int) - 1) ≥ 0 := by omega
      have f2 : ((j : Int) - 1).toNat = j - 1 := by omega
      have f3 : (0 : Int) ≤ (j : Int) - 1 := by omega
      have f4 : (j : Int) - 1 < w := by omega
      have f5 : j - 1 < (List.replicate j (0 : UInt8) ++ bs).length := by simp; omega
      simp (maxSteps := 2000000) only [↓ctl, evl, val, valP, own, tys, Try.ntmps82, Try.results82, ↓V_convert, ↓V_bytes, stdl, cond_true, cond_false, Nat.reduceEqDiff, Nat.reduceAdd, Nat.reduceMul, Nat.reduceSub, Nat.reduceLT, Int.reduceEq, Int.reduceLT, Int.reduceLE, Int.reduceNeg, Nat.reduceLeDiff, if_true, if_false, ↓reduceIte, forall_const, implies_true, reduceCtorEq, forall_eq_or_imp, forall_eq, ne_eq, f1, f2, f3, f4, f5, byteRow]
      obtain ⟨k, rfl⟩ : ∃ k, j = k + 1 := ⟨j - 1, by omega⟩
      refine V_backI ⟨(k, m / 256, UInt8.ofNat (m % 256) :: bs), ?_⟩ (by show k < k + 1; omega) (weakI ?_)
      · simp only [List.length_cons]; refine ⟨by omega, by omega, ?_⟩
        rw [hb, beBytes]; simp
      · simp (maxSteps := 2000000) only [↓ctl, evl, val, valP, own, tys, Try.ntmps82, Try.results82, ↓V_convert, ↓V_bytes, stdl, cond_true, cond_false, Nat.reduceEqDiff, Nat.reduceAdd, Nat.reduceMul, Nat.reduceSub, Nat.reduceLT, Int.reduceEq, Int.reduceLT, Int.reduceLE, Int.reduceNeg, Nat.reduceLeDiff, if_true, if_false, ↓reduceIte, forall_const, implies_true, reduceCtorEq, forall_eq_or_imp, forall_eq, ne_eq]
        refine ⟨⟨?_, ?_⟩, ?_⟩
        · rw [quoV_pos (by omega) (by omega) (by omega)]; simp
        · rw [show ((k + 1 : Nat) : Int) - 1 - 1 = k - 1 by omega]; exact wrap_id (by omega) (by omega)
        · rw [wrap_u8', remV_pos (by omega), Int.emod_emod, Nat.add_sub_cancel, set_rows]
end Go.Proofs.Ytobnbajakenbeaa


/- Contracts: padding. -/
set_option linter.all false
set_option maxRecDepth 10000
namespace Go.Proofs.Ytobnbajakenbeaa
open Go Go.Eng

def padTo (s : List UInt8) (n : Nat) : List UInt8 := s ++ List.replicate (n - s.length) 0
theorem d_PadTo (s : List UInt8) (n : Nat) (hs : s.length ≤ 1048576) (hn : n ≤ 100000) : Gives Go.Proofs.Try.prog 50 [Sx s, I n] (str (padTo s n)) := by
  refine gives_of_V mixed Go.Proofs.Try.call50 Go.Proofs.Try.func50 rfl (by rw [Go.Proofs.Try.ntmps50]; simp) ?_
  have n1 : ¬ (n : Int) > 100000 := by omega
  simp (maxSteps := 2000000) only [↓ctl, evl, val, valP, own, app, tys, Try.ntmps50, Try.results50, ↓V_convert, ↓V_bytes, stdl, cond_true, cond_false, Nat.reduceEqDiff, Nat.reduceAdd, Nat.reduceMul, Nat.reduceSub, Nat.reduceLT, Int.reduceEq, Int.reduceLT, Int.reduceLE, Int.reduceNeg, Nat.reduceLeDiff, if_true, if_false, ↓reduceIte, forall_const, implies_true, reduceCtorEq, forall_eq_or_imp, forall_eq, ne_eq, n1]
  refine V_loopI mixed (ι := {k : Nat // k ≤ n - s.length}) (fun k => ⟨[(1, true, I n), (5, true, .sl 0 1 0 (s.length + k.1))], [(0, .row 5 1 ((s ++ List.replicate k.1 0).map byteRow))], 1, 19⟩) (fun k => n - s.length - k.1) ⟨0, by omega⟩ ?_ ?_ ?_
  · refine weakI ?_
    simp (maxSteps := 2000000) only [↓ctl, evl, val, valP, own, app, tys, Try.ntmps50, Try.results50, ↓V_convert, ↓V_bytes, stdl, cond_true, cond_false, Nat.reduceEqDiff, Nat.reduceAdd, Nat.reduceMul, Nat.reduceSub, Nat.reduceLT, Int.reduceEq, Int.reduceLT, Int.reduceLE, Int.reduceNeg, Nat.reduceLeDiff, if_true, if_false, ↓reduceIte, forall_const, implies_true, reduceCtorEq, forall_eq_or_imp, forall_eq, ne_eq]
    simp
  · trivial
  · rintro ⟨k, hk⟩
    have hlen : (s ++ List.replicate k (0 : UInt8)).length = s.length + k := by simp
    by_cases hlt : ((s.length + k : Nat) : Int) < n
    · simp (maxSteps := 2000000) only [↓ctl, evl, val, valP, own, app, tys, Try.ntmps50, Try.results50, ↓V_convert, ↓V_bytes, stdl, cond_true, cond_false, Nat.reduceEqDiff, Nat.reduceAdd, Nat.reduceMul, Nat.reduceSub, Nat.reduceLT, Int.reduceEq, Int.reduceLT, Int.reduceLE, Int.reduceNeg, Nat.reduceLeDiff, if_true, if_false, ↓reduceIte, forall_const, implies_true, reduceCtorEq, forall_eq_or_imp, forall_eq, ne_eq, hlt]
      refine ⟨⟨by omega, by omega⟩, V_backI ⟨k + 1, by omega⟩ (by show _ - (k + 1) < _; omega) (weakI ?_)⟩
      simp (maxSteps := 2000000) only [↓ctl, evl, val, valP, own, app, tys, Try.ntmps50, Try.results50, ↓V_convert, ↓V_bytes, stdl, cond_true, cond_false, Nat.reduceEqDiff, Nat.reduceAdd, Nat.reduceMul, Nat.reduceSub, Nat.reduceLT, Int.reduceEq, Int.reduceLT, Int.reduceLE, Int.reduceNeg, Nat.reduceLeDiff, if_true, if_false, ↓reduceIte, forall_const, implies_true, reduceCtorEq, forall_eq_or_imp, forall_eq, ne_eq]
      refine ⟨rfl, ?_⟩
      have e : List.take (s.length + k) (List.map byteRow (s ++ List.replicate k 0)) = List.map byteRow (s ++ List.replicate k 0) := List.take_of_length_le (by simp)
      rw [e, List.replicate_succ', ← List.append_assoc, List.map_append (l₁ := s ++ List.replicate k 0)]
      rfl
    · simp (maxSteps := 2000000) only [↓ctl, evl, val, valP, own, app, tys, Try.ntmps50, Try.results50, ↓V_convert, ↓V_bytes, stdl, cond_true, cond_false, Nat.reduceEqDiff, Nat.reduceAdd, Nat.reduceMul, Nat.reduceSub, Nat.reduceLT, Int.reduceEq, Int.reduceLT, Int.reduceLE, Int.reduceNeg, Nat.reduceLeDiff, if_true, if_false, ↓reduceIte, forall_const, implies_true, reduceCtorEq, forall_eq_or_imp, forall_eq, ne_eq, hlt]
      have := put_done (s.length + k) (s ++ List.replicate k 0) hlen
      refine ⟨this.1, ?_⟩
      rw [this.2]
      have : n - s.length = k := by omega
      unfold padTo; rw [this]
end Go.Proofs.Ytobnbajakenbeaa


/- Contracts: padding, the program's. -/
set_option linter.all false
set_option maxRecDepth 10000
namespace Go.Proofs.Ytobnbajakenbeaa
open Go Go.Eng

theorem rep0 : ∀ k, Lib.repeatL [(0 : UInt8)] k = List.replicate k 0
  | 0 => by simp [Lib.repeatL]
  | k + 1 => by
    have := rep0 k
    simp [Lib.repeatL, List.replicate_succ] at *
    try exact this
theorem c_Repeat0 (k : Nat) (hk : k ≤ 1048576) : Gives Go.Proofs.Try.prog 91 [Sx [0], I k] (str (List.replicate k 0)) := by
  refine ⟨Go.Proofs.Try.call91, fun r w us hr hx => ?_⟩
  simp only [Oks, ok_v] at hx
  obtain ⟨u, vs, rfl, rfl, u2, vs2, rfl, rfl, rfl⟩ := hx
  have := Go.Proofs.Try.strings_Repeat ⟨#[0]⟩ k w (by omega) (by simp [ByteArray.size]; omega)
  refine this.mono fun e w' ⟨h1, h2⟩ => ?_
  have e2 : (Value.string { data := (Lib.repeatL ({ data := #[0] } : ByteArray).data.toList k).toArray }) = str (List.replicate k 0) := by
    rw [← rep0 k]; rfl
  rw [e2] at h1
  exact ⟨h1, h2⟩
theorem c_PadTo (s : List UInt8) (n : Nat) (hs : s.length ≤ 1048576) (hn : n ≤ 100000) : Gives Go.Proofs.Try.prog 59 [Sx s, I n] (str (padTo s n)) := by
  refine gives_of_V mixed Go.Proofs.Try.call59 Go.Proofs.Try.func59 rfl (by rw [Go.Proofs.Try.ntmps59]; simp) ?_
  have n1 : ¬ (n : Int) > 100000 := by omega
  simp (maxSteps := 2000000) only [↓ctl, evl, val, valP, own, tys, Try.ntmps59, Try.results59, ↓V_convert, ↓V_bytes, stdl, cond_true, cond_false, Nat.reduceEqDiff, Nat.reduceAdd, Nat.reduceMul, Nat.reduceSub, Nat.reduceLT, Int.reduceEq, Int.reduceLT, Int.reduceLE, Int.reduceNeg, Nat.reduceLeDiff, if_true, if_false, ↓reduceIte, forall_const, implies_true, reduceCtorEq, forall_eq_or_imp, forall_eq, ne_eq, n1]
  refine ⟨fun h => ?_, fun h => ?_⟩
  · have : n - s.length = 0 := by omega
    unfold padTo; rw [this]; simp
  have e : IntKind.i64.wrap ((n : Int) - s.length) = ((n - s.length : Nat) : Int) := by rw [wrap_id (by omega) (by omega)]; omega
  rw [e]
  refine V_callF mixed (cap := []) (fun _ => c_Repeat0 (n - s.length) (by omega)) (by simp (maxSteps := 2000000) (contextual := true) only [↓ctl, evl, val, valP, own, tys, Try.ntmps59, Try.results59, ↓V_convert, ↓V_bytes, stdl, cond_true, cond_false, Nat.reduceEqDiff, Nat.reduceAdd, Nat.reduceMul, Nat.reduceSub, Nat.reduceLT, Int.reduceEq, Int.reduceLT, Int.reduceLE, Int.reduceNeg, Nat.reduceLeDiff, if_true, if_false, ↓reduceIte, forall_const, implies_true, reduceCtorEq, forall_eq_or_imp, forall_eq, ne_eq]) (by simp (maxSteps := 2000000) (contextual := true) only [↓ctl, evl, val, valP, own, tys, Try.ntmps59, Try.results59, ↓V_convert, ↓V_bytes, stdl, cond_true, cond_false, Nat.reduceEqDiff, Nat.reduceAdd, Nat.reduceMul, Nat.reduceSub, Nat.reduceLT, Int.reduceEq, Int.reduceLT, Int.reduceLE, Int.reduceNeg, Nat.reduceLeDiff, if_true, if_false, ↓reduceIte, forall_const, implies_true, reduceCtorEq, forall_eq_or_imp, forall_eq, ne_eq]) (by simp (maxSteps := 2000000) (contextual := true) only [↓ctl, evl, val, valP, own, tys, Try.ntmps59, Try.results59, ↓V_convert, ↓V_bytes, stdl, cond_true, cond_false, Nat.reduceEqDiff, Nat.reduceAdd, Nat.reduceMul, Nat.reduceSub, Nat.reduceLT, Int.reduceEq, Int.reduceLT, Int.reduceLE, Int.reduceNeg, Nat.reduceLeDiff, if_true, if_false, ↓reduceIte, forall_const, implies_true, reduceCtorEq, forall_eq_or_imp, forall_eq, ne_eq]) trivial ?_
  simp (maxSteps := 2000000) only [↓ctl, evl, val, valP, own, tys, Try.ntmps59, Try.results59, ↓V_convert, ↓V_bytes, stdl, cond_true, cond_false, Nat.reduceEqDiff, Nat.reduceAdd, Nat.reduceMul, Nat.reduceSub, Nat.reduceLT, Int.reduceEq, Int.reduceLT, Int.reduceLE, Int.reduceNeg, Nat.reduceLeDiff, if_true, if_false, ↓reduceIte, forall_const, implies_true, reduceCtorEq, forall_eq_or_imp, forall_eq, ne_eq]
  refine ⟨?_, rfl⟩
  simp; omega
end Go.Proofs.Ytobnbajakenbeaa


/- Contracts: cutting into pieces. -/
set_option linter.all false
set_option maxRecDepth 10000
namespace Go.Proofs.Ytobnbajakenbeaa
open Go Go.Eng

def cuts (n : Nat) (s : List UInt8) : List (List UInt8) := if h : s.length = 0 ∨ n = 0 then [] else s.take n :: cuts n (s.drop n)
termination_by s.length
decreasing_by simp only [List.length_drop]; omega
theorem cuts_nil (n : Nat) : cuts n [] = [] := by unfold cuts; simp
theorem cuts_step {n : Nat} {s : List UInt8} (h : 0 < s.length) (hn : 0 < n) : cuts n s = s.take n :: cuts n (s.drop n) := by
  rw [cuts]; rw [dif_neg (by omega)]
theorem c_zeros (n : Nat) (hn : n ≤ 1048576) : Gives Go.Proofs.Try.prog 28 [I n] (str (List.replicate n 0)) := by
  refine gives_of_V mixed Go.Proofs.Try.call28 Go.Proofs.Try.func28 rfl (by rw [Go.Proofs.Try.ntmps28]; simp) ?_
  have n1 : (0 : Int) ≤ n := by omega
  have n2 : (n : Int) ≤ 1099511627776 := by omega
  simp (maxSteps := 2000000) only [↓ctl, evl, val, valP, own, app, tys, Try.ntmps28, Try.results28, ↓V_convert, ↓V_bytes, stdl, cond_true, cond_false, Nat.reduceEqDiff, Nat.reduceAdd, Nat.reduceMul, Nat.reduceSub, Nat.reduceLT, Int.reduceEq, Int.reduceLT, Int.reduceLE, Int.reduceNeg, Nat.reduceLeDiff, if_true, if_false, ↓reduceIte, forall_const, implies_true, reduceCtorEq, forall_eq_or_imp, forall_eq, ne_eq, n1, n2]
  have e : List.replicate n [Cell.v (Value.int IntKind.u8 0)] = (List.replicate n (0 : UInt8)).map byteRow := by simp [byteRow]
  rw [e]
  have := put_done n (List.replicate n 0) (by simp)
  refine ⟨Nat.le_refl _, this.1, ?_⟩
  rw [this.2]
theorem take_strs (acc : List (List UInt8)) (x : List UInt8) : List.take acc.length (acc.map strRow) ++ [[.v (str x)]] = (acc ++ [x]).map strRow := by
  rw [List.take_of_length_le (by simp)]; simp [strRow]
theorem c_CutAll (s : List UInt8) (n : Nat) (hs : s.length ≤ 1048576) (hn : 1 ≤ n ∧ n ≤ 1000) : Reads Go.Proofs.Try.prog 29 [Sx s, I n] (.sl 0 1 0 (cuts n s).length) [(0, .row 9 1 ((cuts n s).map strRow))] 1 := by
  refine reads_of_V mixed Go.Proofs.Try.call29 Go.Proofs.Try.func29 rfl (by rw [Go.Proofs.Try.ntmps29]; simp) ?_
  have n1 : ¬ (n : Int) < 1 := by omega
  have n2 : ¬ (n : Int) > 1000 := by omega
  simp (maxSteps := 2000000) only [↓ctl, evl, val, valP, own, app, tys, Try.ntmps29, Try.results29, ↓V_convert, ↓V_bytes, stdl, cond_true, cond_false, Nat.reduceEqDiff, Nat.reduceAdd, Nat.reduceMul, Nat.reduceSub, Nat.reduceLT, Int.reduceEq, Int.reduceLT, Int.reduceLE, Int.reduceNeg, Nat.reduceLeDiff, if_true, if_false, ↓reduceIte, forall_const, implies_true, reduceCtorEq, forall_eq_or_imp, forall_eq, ne_eq, n1, n2]
  refine V_loopI mixed (ι := {p : List UInt8 × List (List UInt8) // p.1.length ≤ s.length ∧ p.2.length + p.1.length ≤ s.length ∧ cuts n s = p.2 ++ cuts n p.1}) (fun p => ⟨[(0, true, Sx p.1.1), (1, true, I n), (5, true, .sl 0 1 0 p.1.2.length)], [(0, .row 9 1 (p.1.2.map strRow))], 1, 31⟩) (fun p => p.1.1.length) ⟨(s, []), by simp⟩ ?_ ?_ ?_
  · refine weakI ?_
    simp (maxSteps := 2000000) only [↓ctl, evl, val, valP, own, app, tys, Try.ntmps29, Try.results29, ↓V_convert, ↓V_bytes, stdl, cond_true, cond_false, Nat.reduceEqDiff, Nat.reduceAdd, Nat.reduceMul, Nat.reduceSub, Nat.reduceLT, Int.reduceEq, Int.reduceLT, Int.reduceLE, Int.reduceNeg, Nat.reduceLeDiff, if_true, if_false, ↓reduceIte, forall_const, implies_true, reduceCtorEq, forall_eq_or_imp, forall_eq, ne_eq]
  · trivial
  · rintro ⟨⟨r, acc⟩, h1, h2, h3⟩
    simp only at h1 h2 h3
    by_cases hlt : (r.length : Int) > 0
    · have hm : (if r.length < n then (r.length : Int) else n) = ((min n r.length : Nat) : Int) := by split <;> omega
      have m1 : (0 : Int) ≤ (min n r.length : Nat) := by omega
      have m2 : ((min n r.length : Nat) : Int) ≤ r.length := by omega
      simp (maxSteps := 2000000) only [↓ctl, evl, val, valP, own, app, tys, Try.ntmps29, Try.results29, ↓V_convert, ↓V_bytes, stdl, cond_true, cond_false, Nat.reduceEqDiff, Nat.reduceAdd, Nat.reduceMul, Nat.reduceSub, Nat.reduceLT, Int.reduceEq, Int.reduceLT, Int.reduceLE, Int.reduceNeg, Nat.reduceLeDiff, if_true, if_false, ↓reduceIte, forall_const, implies_true, reduceCtorEq, forall_eq_or_imp, forall_eq, ne_eq, hlt, hm, m1, m2]
      have p1 : List.take (r.length - min n r.length) (List.drop (min n r.length) r) = r.drop n := by
        rw [List.take_of_length_le (by simp)]
        by_cases hc : n ≤ r.length
        · rw [Nat.min_eq_left hc]
        · rw [Nat.min_eq_right (by omega), List.drop_of_length_le (by omega), List.drop_of_length_le (by omega)]
      have p2 : List.take (min n r.length - 0) r = r.take n := by
        rw [Nat.sub_zero]
        by_cases hc : n ≤ r.length
        · rw [Nat.min_eq_left hc]
        · rw [Nat.min_eq_right (by omega), List.take_of_length_le (by omega), List.take_of_length_le (by omega)]
      rw [p1, p2, take_strs]
      refine ⟨by omega, ⟨by omega, by omega⟩, by omega, V_backI ⟨(r.drop n, acc ++ [r.take n]), ?_⟩ (by show (r.drop n).length < r.length; rw [List.length_drop]; omega) (weakI ?_)⟩
      · simp only [List.length_drop, List.length_append, List.length_cons, List.length_nil]
        refine ⟨by omega, by omega, ?_⟩
        rw [h3, cuts_step (s := r) (by omega) (by omega), List.append_assoc]; rfl
      · simp (maxSteps := 2000000) only [↓ctl, evl, val, valP, own, app, tys, Try.ntmps29, Try.results29, ↓V_convert, ↓V_bytes, stdl, cond_true, cond_false, Nat.reduceEqDiff, Nat.reduceAdd, Nat.reduceMul, Nat.reduceSub, Nat.reduceLT, Int.reduceEq, Int.reduceLT, Int.reduceLE, Int.reduceNeg, Nat.reduceLeDiff, if_true, if_false, ↓reduceIte, forall_const, implies_true, reduceCtorEq, forall_eq_or_imp, forall_eq, ne_eq, List.length_append]
    · simp (maxSteps := 2000000) only [↓ctl, evl, val, valP, own, app, tys, Try.ntmps29, Try.results29, ↓V_convert, ↓V_bytes, stdl, cond_true, cond_false, Nat.reduceEqDiff, Nat.reduceAdd, Nat.reduceMul, Nat.reduceSub, Nat.reduceLT, Int.reduceEq, Int.reduceLT, Int.reduceLE, Int.reduceNeg, Nat.reduceLeDiff, if_true, if_false, ↓reduceIte, forall_const, implies_true, reduceCtorEq, forall_eq_or_imp, forall_eq, ne_eq, hlt]
      have hr : r = [] := List.eq_nil_of_length_eq_zero (by omega)
      subst hr
      rw [cuts_nil, List.append_nil] at h3
      rw [h3]; exact ⟨rfl, rfl⟩
theorem d_CutAll (s : List UInt8) (n : Nat) (hs : s.length ≤ 1048576) (hn : 1 ≤ n ∧ n ≤ 1000) : Reads Go.Proofs.Try.prog 51 [Sx s, I n] (.sl 0 1 0 (cuts n s).length) [(0, .row 9 1 ((cuts n s).map strRow))] 1 := by
  refine reads_of_V mixed Go.Proofs.Try.call51 Go.Proofs.Try.func51 rfl (by rw [Go.Proofs.Try.ntmps51]; simp) ?_
  have n1 : inR (n : Int) 1 1000 = true := by unfold inR; simp; omega
  have n2 : (0 : Int) ≤ n := by omega
  simp (maxSteps := 2000000) only [↓ctl, evl, val, valP, own, app, tys, Try.ntmps51, Try.results51, ↓V_convert, ↓V_bytes, stdl, cond_true, cond_false, Nat.reduceEqDiff, Nat.reduceAdd, Nat.reduceMul, Nat.reduceSub, Nat.reduceLT, Int.reduceEq, Int.reduceLT, Int.reduceLE, Int.reduceNeg, Nat.reduceLeDiff, if_true, if_false, ↓reduceIte, forall_const, implies_true, reduceCtorEq, forall_eq_or_imp, forall_eq, ne_eq]
  refine V_callF mixed (cap := []) (fun _ => d_l01In n 1 1000) (by simp (maxSteps := 2000000) (contextual := true) only [↓ctl, evl, val, valP, own, app, tys, Try.ntmps51, Try.results51, ↓V_convert, ↓V_bytes, stdl, cond_true, cond_false, Nat.reduceEqDiff, Nat.reduceAdd, Nat.reduceMul, Nat.reduceSub, Nat.reduceLT, Int.reduceEq, Int.reduceLT, Int.reduceLE, Int.reduceNeg, Nat.reduceLeDiff, if_true, if_false, ↓reduceIte, forall_const, implies_true, reduceCtorEq, forall_eq_or_imp, forall_eq, ne_eq]) (by simp (maxSteps := 2000000) (contextual := true) only [↓ctl, evl, val, valP, own, app, tys, Try.ntmps51, Try.results51, ↓V_convert, ↓V_bytes, stdl, cond_true, cond_false, Nat.reduceEqDiff, Nat.reduceAdd, Nat.reduceMul, Nat.reduceSub, Nat.reduceLT, Int.reduceEq, Int.reduceLT, Int.reduceLE, Int.reduceNeg, Nat.reduceLeDiff, if_true, if_false, ↓reduceIte, forall_const, implies_true, reduceCtorEq, forall_eq_or_imp, forall_eq, ne_eq]) (by simp (maxSteps := 2000000) (contextual := true) only [↓ctl, evl, val, valP, own, app, tys, Try.ntmps51, Try.results51, ↓V_convert, ↓V_bytes, stdl, cond_true, cond_false, Nat.reduceEqDiff, Nat.reduceAdd, Nat.reduceMul, Nat.reduceSub, Nat.reduceLT, Int.reduceEq, Int.reduceLT, Int.reduceLE, Int.reduceNeg, Nat.reduceLeDiff, if_true, if_false, ↓reduceIte, forall_const, implies_true, reduceCtorEq, forall_eq_or_imp, forall_eq, ne_eq]) trivial ?_
  simp (maxSteps := 2000000) only [↓ctl, evl, val, valP, own, app, tys, Try.ntmps51, Try.results51, ↓V_convert, ↓V_bytes, stdl, cond_true, cond_false, Nat.reduceEqDiff, Nat.reduceAdd, Nat.reduceMul, Nat.reduceSub, Nat.reduceLT, Int.reduceEq, Int.reduceLT, Int.reduceLE, Int.reduceNeg, Nat.reduceLeDiff, if_true, if_false, ↓reduceIte, forall_const, implies_true, reduceCtorEq, forall_eq_or_imp, forall_eq, ne_eq, n1]
  refine V_loopI mixed (ι := {p : List UInt8 × List (List UInt8) // p.1.length ≤ s.length ∧ p.2.length + p.1.length ≤ s.length ∧ cuts n s = p.2 ++ cuts n p.1}) (fun p => ⟨[(0, true, Sx p.1.1), (1, true, I n), (5, true, .sl 0 1 0 p.1.2.length)], [(0, .row 9 1 (p.1.2.map strRow))], 1, 30⟩) (fun p => p.1.1.length) ⟨(s, []), by simp⟩ ?_ ?_ ?_
  · refine weakI ?_
    simp (maxSteps := 2000000) only [↓ctl, evl, val, valP, own, app, tys, Try.ntmps51, Try.results51, ↓V_convert, ↓V_bytes, stdl, cond_true, cond_false, Nat.reduceEqDiff, Nat.reduceAdd, Nat.reduceMul, Nat.reduceSub, Nat.reduceLT, Int.reduceEq, Int.reduceLT, Int.reduceLE, Int.reduceNeg, Nat.reduceLeDiff, if_true, if_false, ↓reduceIte, forall_const, implies_true, reduceCtorEq, forall_eq_or_imp, forall_eq, ne_eq, litChunk]
  · trivial
  · rintro ⟨⟨r, acc⟩, h1, h2, h3⟩
    simp only at h1 h2 h3
    by_cases hlt : (r.length : Int) > n
    · have m1 : (n : Int) ≤ r.length := by omega
      simp (maxSteps := 2000000) only [↓ctl, evl, val, valP, own, app, tys, Try.ntmps51, Try.results51, ↓V_convert, ↓V_bytes, stdl, cond_true, cond_false, Nat.reduceEqDiff, Nat.reduceAdd, Nat.reduceMul, Nat.reduceSub, Nat.reduceLT, Int.reduceEq, Int.reduceLT, Int.reduceLE, Int.reduceNeg, Nat.reduceLeDiff, if_true, if_false, ↓reduceIte, forall_const, implies_true, reduceCtorEq, forall_eq_or_imp, forall_eq, ne_eq, hlt, m1, n2]
      have p1 : List.take (r.length - n) (List.drop n r) = r.drop n := by
        rw [List.take_of_length_le (by simp)]
      rw [p1, Nat.sub_zero, take_strs]
      refine ⟨by omega, ⟨by omega, by omega⟩, by omega, V_backI ⟨(r.drop n, acc ++ [r.take n]), ?_⟩ (by show (r.drop n).length < r.length; rw [List.length_drop]; omega) (weakI ?_)⟩
      · simp only [List.length_drop, List.length_append, List.length_cons, List.length_nil]
        refine ⟨by omega, by omega, ?_⟩
        rw [h3, cuts_step (s := r) (by omega) (by omega), List.append_assoc]; rfl
      · simp (maxSteps := 2000000) only [↓ctl, evl, val, valP, own, app, tys, Try.ntmps51, Try.results51, ↓V_convert, ↓V_bytes, stdl, cond_true, cond_false, Nat.reduceEqDiff, Nat.reduceAdd, Nat.reduceMul, Nat.reduceSub, Nat.reduceLT, Int.reduceEq, Int.reduceLT, Int.reduceLE, Int.reduceNeg, Nat.reduceLeDiff, if_true, if_false, ↓reduceIte, forall_const, implies_true, reduceCtorEq, forall_eq_or_imp, forall_eq, ne_eq, List.length_append]
    · simp (maxSteps := 2000000) only [↓ctl, evl, val, valP, own, app, tys, Try.ntmps51, Try.results51, ↓V_convert, ↓V_bytes, stdl, cond_true, cond_false, Nat.reduceEqDiff, Nat.reduceAdd, Nat.reduceMul, Nat.reduceSub, Nat.reduceLT, Int.reduceEq, Int.reduceLT, Int.reduceLE, Int.reduceNeg, Nat.reduceLeDiff, if_true, if_false, ↓reduceIte, forall_const, implies_true, reduceCtorEq, forall_eq_or_imp, forall_eq, ne_eq, hlt]
      refine ⟨fun hr => ?_, fun hr => ?_⟩
      · have hpos : 0 < r.length := by cases r with
          | nil => exact absurd rfl hr
          | cons _ _ => simp
        have e : cuts n r = [r] := by
          rw [cuts_step hpos (by omega), List.take_of_length_le (by omega), List.drop_of_length_le (by omega), cuts_nil]
        rw [take_strs, h3, e, List.length_append]
        exact ⟨⟨by omega, by omega⟩, rfl, rfl⟩
      · subst hr
        rw [cuts_nil, List.append_nil] at h3
        rw [h3]; exact ⟨rfl, rfl⟩
end Go.Proofs.Ytobnbajakenbeaa


/- Contracts: access control lists as bytes. -/
set_option linter.all false
set_option maxRecDepth 10000
set_option maxHeartbeats 1000000
namespace Go.Proofs.Ytobnbajakenbeaa
open Go Go.Eng

theorem aclFrom_all : ∀ (l : List Acl) (p : Option Acl), aclFrom p l = true → ∀ e ∈ l, entryOk e = true
  | [], _, _, _, h => by simp at h
  | x :: l, none, h, e, he => by
    simp only [aclFrom, Bool.and_eq_true] at h
    rcases List.mem_cons.1 he with rfl | he
    · exact h.1
    · exact aclFrom_all l _ h.2 e he
  | x :: l, some p, h, e, he => by
    simp only [aclFrom, Bool.and_eq_true] at h
    rcases List.mem_cons.1 he with rfl | he
    · exact h.1.1
    · exact aclFrom_all l _ h.2 e he
theorem isAcl_all {l : List Acl} (h : isAcl l = true) : l.length ≤ 6 ∧ ∀ e ∈ l, entryOk e = true := by
  unfold isAcl at h
  simp only [Bool.and_eq_true] at h
  refine ⟨?_, aclFrom_all l none h.1⟩
  have := h.2
  simp at this
  rcases this with h | h
  · simp [h]
  · exact h.1
def encE (e : Acl) : List UInt8 := putNum e.tag 1 ++ putNum e.id 1 ++ putNum e.perm 1
def encs (l : List Acl) : List UInt8 := (l.map encE).flatten
def packAcl (l : List Acl) : List UInt8 := if isAcl l = true then padTo (putNum l.length 1 ++ encs l) 19 else []
theorem putNum_len (n : Int) (w : Nat) : (putNum n w).length ≤ w := by
  unfold putNum; split
  · rw [beBytes_length]; exact Nat.le_refl _
  · simp
theorem c_Put1 (n : Int) (hn : In64 n) : Gives Go.Proofs.Try.prog 58 [I n, I 1] (str (putNum n 1)) := c_PutNumber n 1 hn (by omega)
theorem d_Put1 (n : Int) (hn : In64 n) : Gives Go.Proofs.Try.prog 82 [I n, I 1] (str (putNum n 1)) := d_PutNumber n 1 hn (by omega)
theorem c_Put2 (n : Int) (hn : In64 n) : Gives Go.Proofs.Try.prog 58 [I n, I 2] (str (putNum n 2)) := c_PutNumber n 2 hn (by omega)
theorem d_Put2 (n : Int) (hn : In64 n) : Gives Go.Proofs.Try.prog 82 [I n, I 2] (str (putNum n 2)) := d_PutNumber n 2 hn (by omega)
theorem c_Put4 (n : Int) (hn : In64 n) : Gives Go.Proofs.Try.prog 58 [I n, I 4] (str (putNum n 4)) := c_PutNumber n 4 hn (by omega)
theorem d_Put4 (n : Int) (hn : In64 n) : Gives Go.Proofs.Try.prog 82 [I n, I 4] (str (putNum n 4)) := d_PutNumber n 4 hn (by omega)
theorem c_PadI (s : List UInt8) (k : Int) (n : Nat) (hk : k = n) (hs : s.length ≤ 1048576) (hn : n ≤ 100000) : Gives Go.Proofs.Try.prog 59 [Sx s, I k] (str (padTo s n)) := by rw [hk]; exact c_PadTo s n hs hn
theorem d_PadI (s : List UInt8) (k : Int) (n : Nat) (hk : k = n) (hs : s.length ≤ 1048576) (hn : n ≤ 100000) : Gives Go.Proofs.Try.prog 50 [Sx s, I k] (str (padTo s n)) := by rw [hk]; exact d_PadTo s n hs hn
theorem entry_in {e : Acl} (h : entryOk e = true) : In64 e.tag ∧ In64 e.id ∧ In64 e.perm := by
  unfold entryOk inR at h; unfold In64; grind
theorem encs_step {l : List Acl} {i : Nat} (h : i < l.length) : encs (l.drop i) = encE (l.getD i default) ++ encs (l.drop (i + 1)) := by
  rw [drop_getD default h]; rfl
theorem c_PackAcl (l : List Acl) (hl : l.length ≤ 1099511627776) : Gives Go.Proofs.Try.prog 61 [.rd 3 (l.map aclRow)] (str (packAcl l)) := by
  refine gives_of_V mixed Go.Proofs.Try.call61 Go.Proofs.Try.func61 rfl (by rw [Go.Proofs.Try.ntmps61]; simp) ?_
  simp (maxSteps := 2000000) only [↓ctl, evl, val, valP, own, tys, Try.ntmps61, Try.results61, ↓V_convert, ↓V_bytes, stdl, cond_true, cond_false, Nat.reduceEqDiff, Nat.reduceAdd, Nat.reduceMul, Nat.reduceSub, Nat.reduceLT, Int.reduceEq, Int.reduceLT, Int.reduceLE, Int.reduceNeg, Nat.reduceLeDiff, if_true, if_false, ↓reduceIte, forall_const, implies_true, reduceCtorEq, forall_eq_or_imp, forall_eq, ne_eq]
  refine V_callF mixed (cap := []) (fun _ => c_IsAcl l hl) (by simp (maxSteps := 2000000) (contextual := true) only [↓ctl, evl, val, valP, own, tys, Try.ntmps61, Try.results61, ↓V_convert, ↓V_bytes, stdl, cond_true, cond_false, Nat.reduceEqDiff, Nat.reduceAdd, Nat.reduceMul, Nat.reduceSub, Nat.reduceLT, Int.reduceEq, Int.reduceLT, Int.reduceLE, Int.reduceNeg, Nat.reduceLeDiff, if_true, if_false, ↓reduceIte, forall_const, implies_true, reduceCtorEq, forall_eq_or_imp, forall_eq, ne_eq]) (by simp (maxSteps := 2000000) (contextual := true) only [↓ctl, evl, val, valP, own, tys, Try.ntmps61, Try.results61, ↓V_convert, ↓V_bytes, stdl, cond_true, cond_false, Nat.reduceEqDiff, Nat.reduceAdd, Nat.reduceMul, Nat.reduceSub, Nat.reduceLT, Int.reduceEq, Int.reduceLT, Int.reduceLE, Int.reduceNeg, Nat.reduceLeDiff, if_true, if_false, ↓reduceIte, forall_const, implies_true, reduceCtorEq, forall_eq_or_imp, forall_eq, ne_eq]) (by simp (maxSteps := 2000000) (contextual := true) only [↓ctl, evl, val, valP, own, tys, Try.ntmps61, Try.results61, ↓V_convert, ↓V_bytes, stdl, cond_true, cond_false, Nat.reduceEqDiff, Nat.reduceAdd, Nat.reduceMul, Nat.reduceSub, Nat.reduceLT, Int.reduceEq, Int.reduceLT, Int.reduceLE, Int.reduceNeg, Nat.reduceLeDiff, if_true, if_false, ↓reduceIte, forall_const, implies_true, reduceCtorEq, forall_eq_or_imp, forall_eq, ne_eq]) trivial ?_
  simp (maxSteps := 2000000) only [↓ctl, evl, val, valP, own, tys, Try.ntmps61, Try.results61, ↓V_convert, ↓V_bytes, stdl, cond_true, cond_false, Nat.reduceEqDiff, Nat.reduceAdd, Nat.reduceMul, Nat.reduceSub, Nat.reduceLT, Int.reduceEq, Int.reduceLT, Int.reduceLE, Int.reduceNeg, Nat.reduceLeDiff, if_true, if_false, ↓reduceIte, forall_const, implies_true, reduceCtorEq, forall_eq_or_imp, forall_eq, ne_eq]
  refine ⟨fun h => by simp [packAcl, h], fun h => ?_⟩
  obtain ⟨h6, hall⟩ := isAcl_all h
  refine V_callF mixed (cap := []) (fun _ => c_Put1 l.length (by constructor <;> omega)) (by simp (maxSteps := 2000000) (contextual := true) only [↓ctl, evl, val, valP, own, tys, Try.ntmps61, Try.results61, ↓V_convert, ↓V_bytes, stdl, cond_true, cond_false, Nat.reduceEqDiff, Nat.reduceAdd, Nat.reduceMul, Nat.reduceSub, Nat.reduceLT, Int.reduceEq, Int.reduceLT, Int.reduceLE, Int.reduceNeg, Nat.reduceLeDiff, if_true, if_false, ↓reduceIte, forall_const, implies_true, reduceCtorEq, forall_eq_or_imp, forall_eq, ne_eq]) (by simp (maxSteps := 2000000) (contextual := true) only [↓ctl, evl, val, valP, own, tys, Try.ntmps61, Try.results61, ↓V_convert, ↓V_bytes, stdl, cond_true, cond_false, Nat.reduceEqDiff, Nat.reduceAdd, Nat.reduceMul, Nat.reduceSub, Nat.reduceLT, Int.reduceEq, Int.reduceLT, Int.reduceLE, Int.reduceNeg, Nat.reduceLeDiff, if_true, if_false, ↓reduceIte, forall_const, implies_true, reduceCtorEq, forall_eq_or_imp, forall_eq, ne_eq]) (by simp (maxSteps := 2000000) (contextual := true) only [↓ctl, evl, val, valP, own, tys, Try.ntmps61, Try.results61, ↓V_convert, ↓V_bytes, stdl, cond_true, cond_false, Nat.reduceEqDiff, Nat.reduceAdd, Nat.reduceMul, Nat.reduceSub, Nat.reduceLT, Int.reduceEq, Int.reduceLT, Int.reduceLE, Int.reduceNeg, Nat.reduceLeDiff, if_true, if_false, ↓reduceIte, forall_const, implies_true, reduceCtorEq, forall_eq_or_imp, forall_eq, ne_eq]) trivial ?_
  simp (maxSteps := 2000000) only [↓ctl, evl, val, valP, own, tys, Try.ntmps61, Try.results61, ↓V_convert, ↓V_bytes, stdl, cond_true, cond_false, Nat.reduceEqDiff, Nat.reduceAdd, Nat.reduceMul, Nat.reduceSub, Nat.reduceLT, Int.reduceEq, Int.reduceLT, Int.reduceLE, Int.reduceNeg, Nat.reduceLeDiff, if_true, if_false, ↓reduceIte, forall_const, implies_true, reduceCtorEq, forall_eq_or_imp, forall_eq, ne_eq]
  refine V_loopI mixed (ι := {i : Nat × List UInt8 // i.1 ≤ l.length ∧ i.2.length ≤ 1 + 3 * i.1 ∧ putNum l.length 1 ++ encs l = i.2 ++ encs (l.drop i.1)}) (fun i => ⟨[(3, true, Sx i.1.2), (12, true, .rd 3 (l.map aclRow)), (13, true, I l.length), (14, true, I i.1.1)], [], 0, 34⟩) (fun i => l.length - i.1.1)  ⟨(0, putNum l.length 1), by simp; exact putNum_len _ _⟩ ?_ ?_ ?_
  · refine weakI ?_
    simp (maxSteps := 2000000) only [↓ctl, evl, val, valP, own, tys, Try.ntmps61, Try.results61, ↓V_convert, ↓V_bytes, stdl, cond_true, cond_false, Nat.reduceEqDiff, Nat.reduceAdd, Nat.reduceMul, Nat.reduceSub, Nat.reduceLT, Int.reduceEq, Int.reduceLT, Int.reduceLE, Int.reduceNeg, Nat.reduceLeDiff, if_true, if_false, ↓reduceIte, forall_const, implies_true, reduceCtorEq, forall_eq_or_imp, forall_eq, ne_eq]
    try rfl
  · trivial
  · rintro ⟨⟨i, out⟩, h1, h2, h3⟩
    simp only at h1 h2 h3
    by_cases hlt : i < l.length
    · have hm : entryOk (l.getD i default) = true := hall _ (by rw [getD_get l i _ hlt]; exact List.getElem_mem hlt)
      obtain ⟨b1, b2, b3⟩ := entry_in hm
      simp (maxSteps := 2000000) only [↓ctl, evl, val, valP, own, tys, Try.ntmps61, Try.results61, ↓V_convert, ↓V_bytes, stdl, cond_true, cond_false, Nat.reduceEqDiff, Nat.reduceAdd, Nat.reduceMul, Nat.reduceSub, Nat.reduceLT, Int.reduceEq, Int.reduceLT, Int.reduceLE, Int.reduceNeg, Nat.reduceLeDiff, if_true, if_false, ↓reduceIte, forall_const, implies_true, reduceCtorEq, forall_eq_or_imp, forall_eq, ne_eq, dat, hlt]
      refine ⟨by kernel_rfl, ?_⟩
      have q1 := putNum_len (l.getD i default).tag 1
      have q2 := putNum_len (l.getD i default).id 1
      have q3 := putNum_len (l.getD i default).perm 1
      refine V_callF mixed (cap := []) (fun _ => c_Put1 (l.getD i default).tag b1) (by simp (maxSteps := 2000000) (contextual := true) only [↓ctl, evl, val, valP, own, tys, Try.ntmps61, Try.results61, ↓V_convert, ↓V_bytes, stdl, cond_true, cond_false, Nat.reduceEqDiff, Nat.reduceAdd, Nat.reduceMul, Nat.reduceSub, Nat.reduceLT, Int.reduceEq, Int.reduceLT, Int.reduceLE, Int.reduceNeg, Nat.reduceLeDiff, if_true, if_false, ↓reduceIte, forall_const, implies_true, reduceCtorEq, forall_eq_or_imp, forall_eq, ne_eq]) (by simp (maxSteps := 2000000) (contextual := true) only [↓ctl, evl, val, valP, own, tys, Try.ntmps61, Try.results61, ↓V_convert, ↓V_bytes, stdl, cond_true, cond_false, Nat.reduceEqDiff, Nat.reduceAdd, Nat.reduceMul, Nat.reduceSub, Nat.reduceLT, Int.reduceEq, Int.reduceLT, Int.reduceLE, Int.reduceNeg, Nat.reduceLeDiff, if_true, if_false, ↓reduceIte, forall_const, implies_true, reduceCtorEq, forall_eq_or_imp, forall_eq, ne_eq]) (by simp (maxSteps := 2000000) (contextual := true) only [↓ctl, evl, val, valP, own, tys, Try.ntmps61, Try.results61, ↓V_convert, ↓V_bytes, stdl, cond_true, cond_false, Nat.reduceEqDiff, Nat.reduceAdd, Nat.reduceMul, Nat.reduceSub, Nat.reduceLT, Int.reduceEq, Int.reduceLT, Int.reduceLE, Int.reduceNeg, Nat.reduceLeDiff, if_true, if_false, ↓reduceIte, forall_const, implies_true, reduceCtorEq, forall_eq_or_imp, forall_eq, ne_eq]) trivial ?_
      simp (maxSteps := 2000000) only [↓ctl, evl, val, valP, own, tys, Try.ntmps61, Try.results61, ↓V_convert, ↓V_bytes, stdl, cond_true, cond_false, Nat.reduceEqDiff, Nat.reduceAdd, Nat.reduceMul, Nat.reduceSub, Nat.reduceLT, Int.reduceEq, Int.reduceLT, Int.reduceLE, Int.reduceNeg, Nat.reduceLeDiff, if_true, if_false, ↓reduceIte, forall_const, implies_true, reduceCtorEq, forall_eq_or_imp, forall_eq, ne_eq]
      refine V_callF mixed (cap := []) (fun _ => c_Put1 (l.getD i default).id b2) (by simp (maxSteps := 2000000) (contextual := true) only [↓ctl, evl, val, valP, own, tys, Try.ntmps61, Try.results61, ↓V_convert, ↓V_bytes, stdl, cond_true, cond_false, Nat.reduceEqDiff, Nat.reduceAdd, Nat.reduceMul, Nat.reduceSub, Nat.reduceLT, Int.reduceEq, Int.reduceLT, Int.reduceLE, Int.reduceNeg, Nat.reduceLeDiff, if_true, if_false, ↓reduceIte, forall_const, implies_true, reduceCtorEq, forall_eq_or_imp, forall_eq, ne_eq]) (by simp (maxSteps := 2000000) (contextual := true) only [↓ctl, evl, val, valP, own, tys, Try.ntmps61, Try.results61, ↓V_convert, ↓V_bytes, stdl, cond_true, cond_false, Nat.reduceEqDiff, Nat.reduceAdd, Nat.reduceMul, Nat.reduceSub, Nat.reduceLT, Int.reduceEq, Int.reduceLT, Int.reduceLE, Int.reduceNeg, Nat.reduceLeDiff, if_true, if_false, ↓reduceIte, forall_const, implies_true, reduceCtorEq, forall_eq_or_imp, forall_eq, ne_eq]) (by simp (maxSteps := 2000000) (contextual := true) only [↓ctl, evl, val, valP, own, tys, Try.ntmps61, Try.results61, ↓V_convert, ↓V_bytes, stdl, cond_true, cond_false, Nat.reduceEqDiff, Nat.reduceAdd, Nat.reduceMul, Nat.reduceSub, Nat.reduceLT, Int.reduceEq, Int.reduceLT, Int.reduceLE, Int.reduceNeg, Nat.reduceLeDiff, if_true, if_false, ↓reduceIte, forall_const, implies_true, reduceCtorEq, forall_eq_or_imp, forall_eq, ne_eq]) trivial ?_
      simp (maxSteps := 2000000) only [↓ctl, evl, val, valP, own, tys, Try.ntmps61, Try.results61, ↓V_convert, ↓V_bytes, stdl, cond_true, cond_false, Nat.reduceEqDiff, Nat.reduceAdd, Nat.reduceMul, Nat.reduceSub, Nat.reduceLT, Int.reduceEq, Int.reduceLT, Int.reduceLE, Int.reduceNeg, Nat.reduceLeDiff, if_true, if_false, ↓reduceIte, forall_const, implies_true, reduceCtorEq, forall_eq_or_imp, forall_eq, ne_eq]
      refine ⟨by omega, ?_⟩
      refine V_callF mixed (cap := []) (fun _ => c_Put1 (l.getD i default).perm b3) (by simp (maxSteps := 2000000) (contextual := true) only [↓ctl, evl, val, valP, own, tys, Try.ntmps61, Try.results61, ↓V_convert, ↓V_bytes, stdl, cond_true, cond_false, Nat.reduceEqDiff, Nat.reduceAdd, Nat.reduceMul, Nat.reduceSub, Nat.reduceLT, Int.reduceEq, Int.reduceLT, Int.reduceLE, Int.reduceNeg, Nat.reduceLeDiff, if_true, if_false, ↓reduceIte, forall_const, implies_true, reduceCtorEq, forall_eq_or_imp, forall_eq, ne_eq]) (by simp (maxSteps := 2000000) (contextual := true) only [↓ctl, evl, val, valP, own, tys, Try.ntmps61, Try.results61, ↓V_convert, ↓V_bytes, stdl, cond_true, cond_false, Nat.reduceEqDiff, Nat.reduceAdd, Nat.reduceMul, Nat.reduceSub, Nat.reduceLT, Int.reduceEq, Int.reduceLT, Int.reduceLE, Int.reduceNeg, Nat.reduceLeDiff, if_true, if_false, ↓reduceIte, forall_const, implies_true, reduceCtorEq, forall_eq_or_imp, forall_eq, ne_eq]) (by simp (maxSteps := 2000000) (contextual := true) only [↓ctl, evl, val, valP, own, tys, Try.ntmps61, Try.results61, ↓V_convert, ↓V_bytes, stdl, cond_true, cond_false, Nat.reduceEqDiff, Nat.reduceAdd, Nat.reduceMul, Nat.reduceSub, Nat.reduceLT, Int.reduceEq, Int.reduceLT, Int.reduceLE, Int.reduceNeg, Nat.reduceLeDiff, if_true, if_false, ↓reduceIte, forall_const, implies_true, reduceCtorEq, forall_eq_or_imp, forall_eq, ne_eq]) trivial ?_
      simp (maxSteps := 2000000) only [↓ctl, evl, val, valP, own, tys, Try.ntmps61, Try.results61, ↓V_convert, ↓V_bytes, stdl, cond_true, cond_false, Nat.reduceEqDiff, Nat.reduceAdd, Nat.reduceMul, Nat.reduceSub, Nat.reduceLT, Int.reduceEq, Int.reduceLT, Int.reduceLE, Int.reduceNeg, Nat.reduceLeDiff, if_true, if_false, ↓reduceIte, forall_const, implies_true, reduceCtorEq, forall_eq_or_imp, forall_eq, ne_eq]
      simp only [List.length_append]
      refine ⟨by omega, by omega, V_backI ⟨(i + 1, out ++ encE (l.getD i default)), ?_⟩ (by show _ - (i + 1) < _; omega) (weakI ?_)⟩
      · simp only [encE, List.length_append]
        refine ⟨by omega, by omega, ?_⟩
        rw [h3, encs_step hlt, List.append_assoc]; rfl
      · simp (maxSteps := 2000000) only [↓ctl, evl, val, valP, own, tys, Try.ntmps61, Try.results61, ↓V_convert, ↓V_bytes, stdl, cond_true, cond_false, Nat.reduceEqDiff, Nat.reduceAdd, Nat.reduceMul, Nat.reduceSub, Nat.reduceLT, Int.reduceEq, Int.reduceLT, Int.reduceLE, Int.reduceNeg, Nat.reduceLeDiff, if_true, if_false, ↓reduceIte, forall_const, implies_true, reduceCtorEq, forall_eq_or_imp, forall_eq, ne_eq]
        rw [wrap_id (by omega) (by omega)]
        exact ⟨rfl, rfl⟩
    · have hi : i = l.length := by omega
      simp (maxSteps := 2000000) only [↓ctl, evl, val, valP, own, tys, Try.ntmps61, Try.results61, ↓V_convert, ↓V_bytes, stdl, cond_true, cond_false, Nat.reduceEqDiff, Nat.reduceAdd, Nat.reduceMul, Nat.reduceSub, Nat.reduceLT, Int.reduceEq, Int.reduceLT, Int.reduceLE, Int.reduceNeg, Nat.reduceLeDiff, if_true, if_false, ↓reduceIte, forall_const, implies_true, reduceCtorEq, forall_eq_or_imp, forall_eq, ne_eq, hlt]
      rw [drop_end _ _ hlt] at h3
      have h3' : putNum (↑l.length) 1 ++ encs l = out := by rw [h3]; simp [encs]
      refine V_callF mixed (cap := []) (fun _ => c_PadI out 19 19 rfl (by omega) (by omega)) (by simp (maxSteps := 2000000) (contextual := true) only [↓ctl, evl, val, valP, own, tys, Try.ntmps61, Try.results61, ↓V_convert, ↓V_bytes, stdl, cond_true, cond_false, Nat.reduceEqDiff, Nat.reduceAdd, Nat.reduceMul, Nat.reduceSub, Nat.reduceLT, Int.reduceEq, Int.reduceLT, Int.reduceLE, Int.reduceNeg, Nat.reduceLeDiff, if_true, if_false, ↓reduceIte, forall_const, implies_true, reduceCtorEq, forall_eq_or_imp, forall_eq, ne_eq]) (by simp (maxSteps := 2000000) (contextual := true) only [↓ctl, evl, val, valP, own, tys, Try.ntmps61, Try.results61, ↓V_convert, ↓V_bytes, stdl, cond_true, cond_false, Nat.reduceEqDiff, Nat.reduceAdd, Nat.reduceMul, Nat.reduceSub, Nat.reduceLT, Int.reduceEq, Int.reduceLT, Int.reduceLE, Int.reduceNeg, Nat.reduceLeDiff, if_true, if_false, ↓reduceIte, forall_const, implies_true, reduceCtorEq, forall_eq_or_imp, forall_eq, ne_eq]) (by simp (maxSteps := 2000000) (contextual := true) only [↓ctl, evl, val, valP, own, tys, Try.ntmps61, Try.results61, ↓V_convert, ↓V_bytes, stdl, cond_true, cond_false, Nat.reduceEqDiff, Nat.reduceAdd, Nat.reduceMul, Nat.reduceSub, Nat.reduceLT, Int.reduceEq, Int.reduceLT, Int.reduceLE, Int.reduceNeg, Nat.reduceLeDiff, if_true, if_false, ↓reduceIte, forall_const, implies_true, reduceCtorEq, forall_eq_or_imp, forall_eq, ne_eq]) trivial ?_
      simp (maxSteps := 2000000) only [↓ctl, evl, val, valP, own, tys, Try.ntmps61, Try.results61, ↓V_convert, ↓V_bytes, stdl, cond_true, cond_false, Nat.reduceEqDiff, Nat.reduceAdd, Nat.reduceMul, Nat.reduceSub, Nat.reduceLT, Int.reduceEq, Int.reduceLT, Int.reduceLE, Int.reduceNeg, Nat.reduceLeDiff, if_true, if_false, ↓reduceIte, forall_const, implies_true, reduceCtorEq, forall_eq_or_imp, forall_eq, ne_eq]
      simp only [packAcl, h, if_true, h3']
theorem d_PackAcl (l : List Acl) (hl : l.length ≤ 1099511627776) : Gives Go.Proofs.Try.prog 83 [.rd 3 (l.map aclRow)] (str (packAcl l)) := by
  refine gives_of_V mixed Go.Proofs.Try.call83 Go.Proofs.Try.func83 rfl (by rw [Go.Proofs.Try.ntmps83]; simp) ?_
  simp (maxSteps := 2000000) only [↓ctl, evl, val, valP, own, tys, Try.ntmps83, Try.results83, ↓V_convert, ↓V_bytes, stdl, cond_true, cond_false, Nat.reduceEqDiff, Nat.reduceAdd, Nat.reduceMul, Nat.reduceSub, Nat.reduceLT, Int.reduceEq, Int.reduceLT, Int.reduceLE, Int.reduceNeg, Nat.reduceLeDiff, if_true, if_false, ↓reduceIte, forall_const, implies_true, reduceCtorEq, forall_eq_or_imp, forall_eq, ne_eq]
  refine V_callF mixed (cap := []) (fun _ => d_IsAcl l hl) (by simp (maxSteps := 2000000) (contextual := true) only [↓ctl, evl, val, valP, own, tys, Try.ntmps83, Try.results83, ↓V_convert, ↓V_bytes, stdl, cond_true, cond_false, Nat.reduceEqDiff, Nat.reduceAdd, Nat.reduceMul, Nat.reduceSub, Nat.reduceLT, Int.reduceEq, Int.reduceLT, Int.reduceLE, Int.reduceNeg, Nat.reduceLeDiff, if_true, if_false, ↓reduceIte, forall_const, implies_true, reduceCtorEq, forall_eq_or_imp, forall_eq, ne_eq]) (by simp (maxSteps := 2000000) (contextual := true) only [↓ctl, evl, val, valP, own, tys, Try.ntmps83, Try.results83, ↓V_convert, ↓V_bytes, stdl, cond_true, cond_false, Nat.reduceEqDiff, Nat.reduceAdd, Nat.reduceMul, Nat.reduceSub, Nat.reduceLT, Int.reduceEq, Int.reduceLT, Int.reduceLE, Int.reduceNeg, Nat.reduceLeDiff, if_true, if_false, ↓reduceIte, forall_const, implies_true, reduceCtorEq, forall_eq_or_imp, forall_eq, ne_eq]) (by simp (maxSteps := 2000000) (contextual := true) only [↓ctl, evl, val, valP, own, tys, Try.ntmps83, Try.results83, ↓V_convert, ↓V_bytes, stdl, cond_true, cond_false, Nat.reduceEqDiff, Nat.reduceAdd, Nat.reduceMul, Nat.reduceSub, Nat.reduceLT, Int.reduceEq, Int.reduceLT, Int.reduceLE, Int.reduceNeg, Nat.reduceLeDiff, if_true, if_false, ↓reduceIte, forall_const, implies_true, reduceCtorEq, forall_eq_or_imp, forall_eq, ne_eq]) trivial ?_
  simp (maxSteps := 2000000) only [↓ctl, evl, val, valP, own, tys, Try.ntmps83, Try.results83, ↓V_convert, ↓V_bytes, stdl, cond_true, cond_false, Nat.reduceEqDiff, Nat.reduceAdd, Nat.reduceMul, Nat.reduceSub, Nat.reduceLT, Int.reduceEq, Int.reduceLT, Int.reduceLE, Int.reduceNeg, Nat.reduceLeDiff, if_true, if_false, ↓reduceIte, forall_const, implies_true, reduceCtorEq, forall_eq_or_imp, forall_eq, ne_eq]
  refine ⟨fun h => by simp [packAcl, h], fun h => ?_⟩
  obtain ⟨h6, hall⟩ := isAcl_all h
  refine V_callF mixed (cap := []) (fun _ => d_Put1 l.length (by constructor <;> omega)) (by simp (maxSteps := 2000000) (contextual := true) only [↓ctl, evl, val, valP, own, tys, Try.ntmps83, Try.results83, ↓V_convert, ↓V_bytes, stdl, cond_true, cond_false, Nat.reduceEqDiff, Nat.reduceAdd, Nat.reduceMul, Nat.reduceSub, Nat.reduceLT, Int.reduceEq, Int.reduceLT, Int.reduceLE, Int.reduceNeg, Nat.reduceLeDiff, if_true, if_false, ↓reduceIte, forall_const, implies_true, reduceCtorEq, forall_eq_or_imp, forall_eq, ne_eq]) (by simp (maxSteps := 2000000) (contextual := true) only [↓ctl, evl, val, valP, own, tys, Try.ntmps83, Try.results83, ↓V_convert, ↓V_bytes, stdl, cond_true, cond_false, Nat.reduceEqDiff, Nat.reduceAdd, Nat.reduceMul, Nat.reduceSub, Nat.reduceLT, Int.reduceEq, Int.reduceLT, Int.reduceLE, Int.reduceNeg, Nat.reduceLeDiff, if_true, if_false, ↓reduceIte, forall_const, implies_true, reduceCtorEq, forall_eq_or_imp, forall_eq, ne_eq]) (by simp (maxSteps := 2000000) (contextual := true) only [↓ctl, evl, val, valP, own, tys, Try.ntmps83, Try.results83, ↓V_convert, ↓V_bytes, stdl, cond_true, cond_false, Nat.reduceEqDiff, Nat.reduceAdd, Nat.reduceMul, Nat.reduceSub, Nat.reduceLT, Int.reduceEq, Int.reduceLT, Int.reduceLE, Int.reduceNeg, Nat.reduceLeDiff, if_true, if_false, ↓reduceIte, forall_const, implies_true, reduceCtorEq, forall_eq_or_imp, forall_eq, ne_eq]) trivial ?_
  simp (maxSteps := 2000000) only [↓ctl, evl, val, valP, own, tys, Try.ntmps83, Try.results83, ↓V_convert, ↓V_bytes, stdl, cond_true, cond_false, Nat.reduceEqDiff, Nat.reduceAdd, Nat.reduceMul, Nat.reduceSub, Nat.reduceLT, Int.reduceEq, Int.reduceLT, Int.reduceLE, Int.reduceNeg, Nat.reduceLeDiff, if_true, if_false, ↓reduceIte, forall_const, implies_true, reduceCtorEq, forall_eq_or_imp, forall_eq, ne_eq]
  refine V_loopI mixed (ι := {i : Nat × List UInt8 // i.1 ≤ l.length ∧ i.2.length ≤ 1 + 3 * i.1 ∧ putNum l.length 1 ++ encs l = i.2 ++ encs (l.drop i.1)}) (fun i => ⟨[(3, true, Sx i.1.2), (12, true, .rd 3 (l.map aclRow)), (13, true, I l.length), (14, true, I i.1.1)], [], 0, 34⟩) (fun i => l.length - i.1.1)  ⟨(0, putNum l.length 1), by simp; exact putNum_len _ _⟩ ?_ ?_ ?_
  · refine weakI ?_
    simp (maxSteps := 2000000) only [↓ctl, evl, val, valP, own, tys, Try.ntmps83, Try.results83, ↓V_convert, ↓V_bytes, stdl, cond_true, cond_false, Nat.reduceEqDiff, Nat.reduceAdd, Nat.reduceMul, Nat.reduceSub, Nat.reduceLT, Int.reduceEq, Int.reduceLT, Int.reduceLE, Int.reduceNeg, Nat.reduceLeDiff, if_true, if_false, ↓reduceIte, forall_const, implies_true, reduceCtorEq, forall_eq_or_imp, forall_eq, ne_eq]
    try rfl
  · trivial
  · rintro ⟨⟨i, out⟩, h1, h2, h3⟩
    simp only at h1 h2 h3
    by_cases hlt : i < l.length
    · have hm : entryOk (l.getD i default) = true := hall _ (by rw [getD_get l i _ hlt]; exact List.getElem_mem hlt)
      obtain ⟨b1, b2, b3⟩ := entry_in hm
      simp (maxSteps := 2000000) only [↓ctl, evl, val, valP, own, tys, Try.ntmps83, Try.results83, ↓V_convert, ↓V_bytes, stdl, cond_true, cond_false, Nat.reduceEqDiff, Nat.reduceAdd, Nat.reduceMul, Nat.reduceSub, Nat.reduceLT, Int.reduceEq, Int.reduceLT, Int.reduceLE, Int.reduceNeg, Nat.reduceLeDiff, if_true, if_false, ↓reduceIte, forall_const, implies_true, reduceCtorEq, forall_eq_or_imp, forall_eq, ne_eq, dat, hlt]
      refine ⟨by kernel_rfl, ?_⟩
      have q1 := putNum_len (l.getD i default).tag 1
      have q2 := putNum_len (l.getD i default).id 1
      have q3 := putNum_len (l.getD i default).perm 1
      refine V_callF mixed (cap := []) (fun _ => d_Put1 (l.getD i default).tag b1) (by simp (maxSteps := 2000000) (contextual := true) only [↓ctl, evl, val, valP, own, tys, Try.ntmps83, Try.results83, ↓V_convert, ↓V_bytes, stdl, cond_true, cond_false, Nat.reduceEqDiff, Nat.reduceAdd, Nat.reduceMul, Nat.reduceSub, Nat.reduceLT, Int.reduceEq, Int.reduceLT, Int.reduceLE, Int.reduceNeg, Nat.reduceLeDiff, if_true, if_false, ↓reduceIte, forall_const, implies_true, reduceCtorEq, forall_eq_or_imp, forall_eq, ne_eq]) (by simp (maxSteps := 2000000) (contextual := true) only [↓ctl, evl, val, valP, own, tys, Try.ntmps83, Try.results83, ↓V_convert, ↓V_bytes, stdl, cond_true, cond_false, Nat.reduceEqDiff, Nat.reduceAdd, Nat.reduceMul, Nat.reduceSub, Nat.reduceLT, Int.reduceEq, Int.reduceLT, Int.reduceLE, Int.reduceNeg, Nat.reduceLeDiff, if_true, if_false, ↓reduceIte, forall_const, implies_true, reduceCtorEq, forall_eq_or_imp, forall_eq, ne_eq]) (by simp (maxSteps := 2000000) (contextual := true) only [↓ctl, evl, val, valP, own, tys, Try.ntmps83, Try.results83, ↓V_convert, ↓V_bytes, stdl, cond_true, cond_false, Nat.reduceEqDiff, Nat.reduceAdd, Nat.reduceMul, Nat.reduceSub, Nat.reduceLT, Int.reduceEq, Int.reduceLT, Int.reduceLE, Int.reduceNeg, Nat.reduceLeDiff, if_true, if_false, ↓reduceIte, forall_const, implies_true, reduceCtorEq, forall_eq_or_imp, forall_eq, ne_eq]) trivial ?_
      simp (maxSteps := 2000000) only [↓ctl, evl, val, valP, own, tys, Try.ntmps83, Try.results83, ↓V_convert, ↓V_bytes, stdl, cond_true, cond_false, Nat.reduceEqDiff, Nat.reduceAdd, Nat.reduceMul, Nat.reduceSub, Nat.reduceLT, Int.reduceEq, Int.reduceLT, Int.reduceLE, Int.reduceNeg, Nat.reduceLeDiff, if_true, if_false, ↓reduceIte, forall_const, implies_true, reduceCtorEq, forall_eq_or_imp, forall_eq, ne_eq]
      refine ⟨by omega, ?_⟩
      refine V_callF mixed (cap := []) (fun _ => d_Put1 (l.getD i default).id b2) (by simp (maxSteps := 2000000) (contextual := true) only [↓ctl, evl, val, valP, own, tys, Try.ntmps83, Try.results83, ↓V_convert, ↓V_bytes, stdl, cond_true, cond_false, Nat.reduceEqDiff, Nat.reduceAdd, Nat.reduceMul, Nat.reduceSub, Nat.reduceLT, Int.reduceEq, Int.reduceLT, Int.reduceLE, Int.reduceNeg, Nat.reduceLeDiff, if_true, if_false, ↓reduceIte, forall_const, implies_true, reduceCtorEq, forall_eq_or_imp, forall_eq, ne_eq]) (by simp (maxSteps := 2000000) (contextual := true) only [↓ctl, evl, val, valP, own, tys, Try.ntmps83, Try.results83, ↓V_convert, ↓V_bytes, stdl, cond_true, cond_false, Nat.reduceEqDiff, Nat.reduceAdd, Nat.reduceMul, Nat.reduceSub, Nat.reduceLT, Int.reduceEq, Int.reduceLT, Int.reduceLE, Int.reduceNeg, Nat.reduceLeDiff, if_true, if_false, ↓reduceIte, forall_const, implies_true, reduceCtorEq, forall_eq_or_imp, forall_eq, ne_eq]) (by simp (maxSteps := 2000000) (contextual := true) only [↓ctl, evl, val, valP, own, tys, Try.ntmps83, Try.results83, ↓V_convert, ↓V_bytes, stdl, cond_true, cond_false, Nat.reduceEqDiff, Nat.reduceAdd, Nat.reduceMul, Nat.reduceSub, Nat.reduceLT, Int.reduceEq, Int.reduceLT, Int.reduceLE, Int.reduceNeg, Nat.reduceLeDiff, if_true, if_false, ↓reduceIte, forall_const, implies_true, reduceCtorEq, forall_eq_or_imp, forall_eq, ne_eq]) trivial ?_
      simp (maxSteps := 2000000) only [↓ctl, evl, val, valP, own, tys, Try.ntmps83, Try.results83, ↓V_convert, ↓V_bytes, stdl, cond_true, cond_false, Nat.reduceEqDiff, Nat.reduceAdd, Nat.reduceMul, Nat.reduceSub, Nat.reduceLT, Int.reduceEq, Int.reduceLT, Int.reduceLE, Int.reduceNeg, Nat.reduceLeDiff, if_true, if_false, ↓reduceIte, forall_const, implies_true, reduceCtorEq, forall_eq_or_imp, forall_eq, ne_eq]
      simp only [List.length_append]
      refine ⟨by omega, ?_⟩
      refine V_callF mixed (cap := []) (fun _ => d_Put1 (l.getD i default).perm b3) (by simp (maxSteps := 2000000) (contextual := true) only [↓ctl, evl, val, valP, own, tys, Try.ntmps83, Try.results83, ↓V_convert, ↓V_bytes, stdl, cond_true, cond_false, Nat.reduceEqDiff, Nat.reduceAdd, Nat.reduceMul, Nat.reduceSub, Nat.reduceLT, Int.reduceEq, Int.reduceLT, Int.reduceLE, Int.reduceNeg, Nat.reduceLeDiff, if_true, if_false, ↓reduceIte, forall_const, implies_true, reduceCtorEq, forall_eq_or_imp, forall_eq, ne_eq]) (by simp (maxSteps := 2000000) (contextual := true) only [↓ctl, evl, val, valP, own, tys, Try.ntmps83, Try.results83, ↓V_convert, ↓V_bytes, stdl, cond_true, cond_false, Nat.reduceEqDiff, Nat.reduceAdd, Nat.reduceMul, Nat.reduceSub, Nat.reduceLT, Int.reduceEq, Int.reduceLT, Int.reduceLE, Int.reduceNeg, Nat.reduceLeDiff, if_true, if_false, ↓reduceIte, forall_const, implies_true, reduceCtorEq, forall_eq_or_imp, forall_eq, ne_eq]) (by simp (maxSteps := 2000000) (contextual := true) only [↓ctl, evl, val, valP, own, tys, Try.ntmps83, Try.results83, ↓V_convert, ↓V_bytes, stdl, cond_true, cond_false, Nat.reduceEqDiff, Nat.reduceAdd, Nat.reduceMul, Nat.reduceSub, Nat.reduceLT, Int.reduceEq, Int.reduceLT, Int.reduceLE, Int.reduceNeg, Nat.reduceLeDiff, if_true, if_false, ↓reduceIte, forall_const, implies_true, reduceCtorEq, forall_eq_or_imp, forall_eq, ne_eq]) trivial ?_
      simp (maxSteps := 2000000) only [↓ctl, evl, val, valP, own, tys, Try.ntmps83, Try.results83, ↓V_convert, ↓V_bytes, stdl, cond_true, cond_false, Nat.reduceEqDiff, Nat.reduceAdd, Nat.reduceMul, Nat.reduceSub, Nat.reduceLT, Int.reduceEq, Int.reduceLT, Int.reduceLE, Int.reduceNeg, Nat.reduceLeDiff, if_true, if_false, ↓reduceIte, forall_const, implies_true, reduceCtorEq, forall_eq_or_imp, forall_eq, ne_eq]
      simp only [List.length_append]
      refine ⟨by omega, V_backI ⟨(i + 1, out ++ encE (l.getD i default)), ?_⟩ (by show _ - (i + 1) < _; omega) (weakI ?_)⟩
      · simp only [encE, List.length_append]
        refine ⟨by omega, by omega, ?_⟩
        rw [h3, encs_step hlt, ← List.append_assoc]; rfl
      · simp (maxSteps := 2000000) only [↓ctl, evl, val, valP, own, tys, Try.ntmps83, Try.results83, ↓V_convert, ↓V_bytes, stdl, cond_true, cond_false, Nat.reduceEqDiff, Nat.reduceAdd, Nat.reduceMul, Nat.reduceSub, Nat.reduceLT, Int.reduceEq, Int.reduceLT, Int.reduceLE, Int.reduceNeg, Nat.reduceLeDiff, if_true, if_false, ↓reduceIte, forall_const, implies_true, reduceCtorEq, forall_eq_or_imp, forall_eq, ne_eq]
        rw [wrap_id (by omega) (by omega)]
        exact ⟨by simp only [encE, List.append_assoc], rfl⟩
    · have hi : i = l.length := by omega
      simp (maxSteps := 2000000) only [↓ctl, evl, val, valP, own, tys, Try.ntmps83, Try.results83, ↓V_convert, ↓V_bytes, stdl, cond_true, cond_false, Nat.reduceEqDiff, Nat.reduceAdd, Nat.reduceMul, Nat.reduceSub, Nat.reduceLT, Int.reduceEq, Int.reduceLT, Int.reduceLE, Int.reduceNeg, Nat.reduceLeDiff, if_true, if_false, ↓reduceIte, forall_const, implies_true, reduceCtorEq, forall_eq_or_imp, forall_eq, ne_eq, hlt]
      rw [drop_end _ _ hlt] at h3
      have h3' : putNum (↑l.length) 1 ++ encs l = out := by rw [h3]; simp [encs]
      refine V_callF mixed (cap := []) (fun _ => d_PadI out 19 19 rfl (by omega) (by omega)) (by simp (maxSteps := 2000000) (contextual := true) only [↓ctl, evl, val, valP, own, tys, Try.ntmps83, Try.results83, ↓V_convert, ↓V_bytes, stdl, cond_true, cond_false, Nat.reduceEqDiff, Nat.reduceAdd, Nat.reduceMul, Nat.reduceSub, Nat.reduceLT, Int.reduceEq, Int.reduceLT, Int.reduceLE, Int.reduceNeg, Nat.reduceLeDiff, if_true, if_false, ↓reduceIte, forall_const, implies_true, reduceCtorEq, forall_eq_or_imp, forall_eq, ne_eq]) (by simp (maxSteps := 2000000) (contextual := true) only [↓ctl, evl, val, valP, own, tys, Try.ntmps83, Try.results83, ↓V_convert, ↓V_bytes, stdl, cond_true, cond_false, Nat.reduceEqDiff, Nat.reduceAdd, Nat.reduceMul, Nat.reduceSub, Nat.reduceLT, Int.reduceEq, Int.reduceLT, Int.reduceLE, Int.reduceNeg, Nat.reduceLeDiff, if_true, if_false, ↓reduceIte, forall_const, implies_true, reduceCtorEq, forall_eq_or_imp, forall_eq, ne_eq]) (by simp (maxSteps := 2000000) (contextual := true) only [↓ctl, evl, val, valP, own, tys, Try.ntmps83, Try.results83, ↓V_convert, ↓V_bytes, stdl, cond_true, cond_false, Nat.reduceEqDiff, Nat.reduceAdd, Nat.reduceMul, Nat.reduceSub, Nat.reduceLT, Int.reduceEq, Int.reduceLT, Int.reduceLE, Int.reduceNeg, Nat.reduceLeDiff, if_true, if_false, ↓reduceIte, forall_const, implies_true, reduceCtorEq, forall_eq_or_imp, forall_eq, ne_eq]) trivial ?_
      simp (maxSteps := 2000000) only [↓ctl, evl, val, valP, own, tys, Try.ntmps83, Try.results83, ↓V_convert, ↓V_bytes, stdl, cond_true, cond_false, Nat.reduceEqDiff, Nat.reduceAdd, Nat.reduceMul, Nat.reduceSub, Nat.reduceLT, Int.reduceEq, Int.reduceLT, Int.reduceLE, Int.reduceNeg, Nat.reduceLeDiff, if_true, if_false, ↓reduceIte, forall_const, implies_true, reduceCtorEq, forall_eq_or_imp, forall_eq, ne_eq]
      simp only [packAcl, h, if_true, h3']
end Go.Proofs.Ytobnbajakenbeaa

