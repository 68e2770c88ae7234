/- FnExactFormatFS: for every file system as argument the law hands back true, and the argument reads behind the call as it read before. No condition. -/
import Derived.Test.YtobnbajakenbeaaGreatEng3
import Derived.Test.YtobnbajakenbeaaGreatProg
import Derived.Test.YtobnbajakenbeaaGreatShelf
import Derived.WalkKit
import Derived.WalkLawsBesides
import Derived.WalkSpells
set_option linter.all false
set_option linter.defProp false
/- What the tables of this program say of its types. -/
set_option linter.all false
namespace Go.Proofs.YtobnbajakenbeaaGreat
open Go Go.Eng
theorem tys0 : refT Go.Proofs.Tryz.prog 0 = false ∧
  szT Go.Proofs.Tryz.prog 3 = some 1 ∧
  isAggT Go.Proofs.Tryz.prog 3 = false ∧
  strT Go.Proofs.Tryz.prog 3 = false ∧
  bytesT Go.Proofs.Tryz.prog 3 = false ∧
  refT Go.Proofs.Tryz.prog 3 = false ∧
  (Go.Proofs.Tryz.prog.underlying 3).isSome = true ∧
  intT Go.Proofs.Tryz.prog 3 = some .i64 ∧
  kindT Go.Proofs.Tryz.prog 3 = 1 ∧
  (zeroT Go.Proofs.Tryz.prog 3).isSome = true ∧
  zcells Go.Proofs.Tryz.prog 3 = [.int .i64 0] ∧
  ((Go.Proofs.Tryz.prog.info? 3).map (·.bytes)).getD 1000 = 8 ∧
  szT Go.Proofs.Tryz.prog 4 = some 1 ∧
  isAggT Go.Proofs.Tryz.prog 4 = false ∧
  strT Go.Proofs.Tryz.prog 4 = false ∧
  bytesT Go.Proofs.Tryz.prog 4 = false ∧
  refT Go.Proofs.Tryz.prog 4 = false ∧
  (Go.Proofs.Tryz.prog.underlying 4).isSome = true ∧
  intT Go.Proofs.Tryz.prog 4 = none ∧
  kindT Go.Proofs.Tryz.prog 4 = 2 ∧
  (zeroT Go.Proofs.Tryz.prog 4).isSome = true ∧
  zcells Go.Proofs.Tryz.prog 4 = [.bool false] ∧
  ((Go.Proofs.Tryz.prog.info? 4).map (·.bytes)).getD 1000 = 1 ∧
  szT Go.Proofs.Tryz.prog 5 = some 1 ∧
  isAggT Go.Proofs.Tryz.prog 5 = false ∧
  strT Go.Proofs.Tryz.prog 5 = false ∧
  bytesT Go.Proofs.Tryz.prog 5 = false ∧
  refT Go.Proofs.Tryz.prog 5 = false ∧
  (Go.Proofs.Tryz.prog.underlying 5).isSome = true ∧
  intT Go.Proofs.Tryz.prog 5 = some .u8 ∧
  kindT Go.Proofs.Tryz.prog 5 = 1 ∧
  (zeroT Go.Proofs.Tryz.prog 5).isSome = true ∧
  zcells Go.Proofs.Tryz.prog 5 = [.int .u8 0] ∧
  ((Go.Proofs.Tryz.prog.info? 5).map (·.bytes)).getD 1000 = 1 ∧
  szT Go.Proofs.Tryz.prog 9 = some 1 ∧
  isAggT Go.Proofs.Tryz.prog 9 = false ∧
  strT Go.Proofs.Tryz.prog 9 = true ∧
  bytesT Go.Proofs.Tryz.prog 9 = false ∧
  refT Go.Proofs.Tryz.prog 9 = false ∧
  (Go.Proofs.Tryz.prog.underlying 9).isSome = true ∧
  intT Go.Proofs.Tryz.prog 9 = none ∧
  kindT Go.Proofs.Tryz.prog 9 = 3 ∧
  (zeroT Go.Proofs.Tryz.prog 9).isSome = true ∧
  zcells Go.Proofs.Tryz.prog 9 = [str []] ∧
  ((Go.Proofs.Tryz.prog.info? 9).map (·.bytes)).getD 1000 = 16 ∧
  refT Go.Proofs.Tryz.prog 20 = false ∧
  szT Go.Proofs.Tryz.prog 22 = some 1 ∧
  isAggT Go.Proofs.Tryz.prog 22 = false ∧
  strT Go.Proofs.Tryz.prog 22 = false ∧
  bytesT Go.Proofs.Tryz.prog 22 = false ∧
  refT Go.Proofs.Tryz.prog 22 = true ∧
  (Go.Proofs.Tryz.prog.underlying 22).isSome = true ∧
  slT Go.Proofs.Tryz.prog 22 = some (92, 2) ∧
  appE Go.Proofs.Tryz.prog 22 = 2 ∧
  appT Go.Proofs.Tryz.prog 22 = 92 ∧
  intT Go.Proofs.Tryz.prog 22 = none ∧
  kindT Go.Proofs.Tryz.prog 22 = 0 ∧
  (zeroT Go.Proofs.Tryz.prog 22).isSome = true ∧
  zcells Go.Proofs.Tryz.prog 22 = [.slice none 0 0] ∧
  ((Go.Proofs.Tryz.prog.info? 22).map (·.bytes)).getD 1000 = 24 :=
  ⟨by kernel_rfl, by kernel_rfl, by kernel_rfl, by kernel_rfl, by kernel_rfl, by kernel_rfl, by kernel_rfl, by kernel_rfl, by kernel_rfl, by kernel_rfl, by kernel_rfl, by kernel_rfl, by kernel_rfl, by kernel_rfl, by kernel_rfl, by kernel_rfl, by kernel_rfl, by kernel_rfl, by kernel_rfl, by kernel_rfl, by kernel_rfl, by kernel_rfl, by kernel_rfl, by kernel_rfl, by kernel_rfl, by kernel_rfl, by kernel_rfl, by kernel_rfl, by kernel_rfl, by kernel_rfl, by kernel_rfl, by kernel_rfl, by kernel_rfl, by kernel_rfl, by kernel_rfl, by kernel_rfl, by kernel_rfl, by kernel_rfl, by kernel_rfl, by kernel_rfl, by kernel_rfl, by kernel_rfl, by kernel_rfl, by kernel_rfl, by kernel_rfl, by kernel_rfl, by kernel_rfl, by kernel_rfl, by kernel_rfl, by kernel_rfl, by kernel_rfl, by kernel_rfl, by kernel_rfl, by kernel_rfl, by kernel_rfl, by kernel_rfl, by kernel_rfl, by kernel_rfl, by kernel_rfl, by kernel_rfl⟩
theorem tys1 : szT Go.Proofs.Tryz.prog 23 = some 1 ∧
  isAggT Go.Proofs.Tryz.prog 23 = false ∧
  strT Go.Proofs.Tryz.prog 23 = false ∧
  bytesT Go.Proofs.Tryz.prog 23 = false ∧
  refT Go.Proofs.Tryz.prog 23 = true ∧
  (Go.Proofs.Tryz.prog.underlying 23).isSome = true ∧
  slT Go.Proofs.Tryz.prog 23 = some (75, 10) ∧
  appE Go.Proofs.Tryz.prog 23 = 10 ∧
  appT Go.Proofs.Tryz.prog 23 = 75 ∧
  intT Go.Proofs.Tryz.prog 23 = none ∧
  kindT Go.Proofs.Tryz.prog 23 = 0 ∧
  (zeroT Go.Proofs.Tryz.prog 23).isSome = true ∧
  zcells Go.Proofs.Tryz.prog 23 = [.slice none 0 0] ∧
  ((Go.Proofs.Tryz.prog.info? 23).map (·.bytes)).getD 1000 = 24 ∧
  szT Go.Proofs.Tryz.prog 24 = some 1 ∧
  isAggT Go.Proofs.Tryz.prog 24 = false ∧
  strT Go.Proofs.Tryz.prog 24 = false ∧
  bytesT Go.Proofs.Tryz.prog 24 = false ∧
  refT Go.Proofs.Tryz.prog 24 = true ∧
  (Go.Proofs.Tryz.prog.underlying 24).isSome = true ∧
  slT Go.Proofs.Tryz.prog 24 = some (9, 1) ∧
  appE Go.Proofs.Tryz.prog 24 = 1 ∧
  appT Go.Proofs.Tryz.prog 24 = 9 ∧
  intT Go.Proofs.Tryz.prog 24 = none ∧
  kindT Go.Proofs.Tryz.prog 24 = 0 ∧
  (zeroT Go.Proofs.Tryz.prog 24).isSome = true ∧
  zcells Go.Proofs.Tryz.prog 24 = [.slice none 0 0] ∧
  ((Go.Proofs.Tryz.prog.info? 24).map (·.bytes)).getD 1000 = 24 ∧
  szT Go.Proofs.Tryz.prog 26 = some 4 ∧
  isAggT Go.Proofs.Tryz.prog 26 = true ∧
  strT Go.Proofs.Tryz.prog 26 = false ∧
  bytesT Go.Proofs.Tryz.prog 26 = false ∧
  refT Go.Proofs.Tryz.prog 26 = true ∧
  (Go.Proofs.Tryz.prog.underlying 26).isSome = true ∧
  fldT Go.Proofs.Tryz.prog 26 0 = some 0 ∧
  fldV Go.Proofs.Tryz.prog 26 0 = some (0, false, 1) ∧
  fldT Go.Proofs.Tryz.prog 26 1 = some 1 ∧
  fldV Go.Proofs.Tryz.prog 26 1 = some (1, false, 1) ∧
  fldT Go.Proofs.Tryz.prog 26 2 = some 2 ∧
  fldV Go.Proofs.Tryz.prog 26 2 = some (2, false, 1) ∧
  fldT Go.Proofs.Tryz.prog 26 3 = some 3 ∧
  fldV Go.Proofs.Tryz.prog 26 3 = some (3, false, 1) ∧
  plT Go.Proofs.Tryz.prog 26 = some [(0, 1), (1, 1), (2, 1), (3, 1)] ∧
  intT Go.Proofs.Tryz.prog 26 = none ∧
  kindT Go.Proofs.Tryz.prog 26 = 0 ∧
  (zeroT Go.Proofs.Tryz.prog 26).isSome = true ∧
  zcells Go.Proofs.Tryz.prog 26 = [.int .i64 0, .slice none 0 0, .slice none 0 0, .slice none 0 0] ∧
  ((Go.Proofs.Tryz.prog.info? 26).map (·.bytes)).getD 1000 = 80 ∧
  szT Go.Proofs.Tryz.prog 28 = some 1 ∧
  isAggT Go.Proofs.Tryz.prog 28 = false ∧
  strT Go.Proofs.Tryz.prog 28 = false ∧
  bytesT Go.Proofs.Tryz.prog 28 = false ∧
  refT Go.Proofs.Tryz.prog 28 = true ∧
  (Go.Proofs.Tryz.prog.underlying 28).isSome = true ∧
  slT Go.Proofs.Tryz.prog 28 = some (98, 2) ∧
  appE Go.Proofs.Tryz.prog 28 = 2 ∧
  appT Go.Proofs.Tryz.prog 28 = 98 ∧
  intT Go.Proofs.Tryz.prog 28 = none ∧
  kindT Go.Proofs.Tryz.prog 28 = 0 ∧
  (zeroT Go.Proofs.Tryz.prog 28).isSome = true :=
  ⟨by kernel_rfl, by kernel_rfl, by kernel_rfl, by kernel_rfl, by kernel_rfl, by kernel_rfl, by kernel_rfl, by kernel_rfl, by kernel_rfl, by kernel_rfl, by kernel_rfl, by kernel_rfl, by kernel_rfl, by kernel_rfl, by kernel_rfl, by kernel_rfl, by kernel_rfl, by kernel_rfl, by kernel_rfl, by kernel_rfl, by kernel_rfl, by kernel_rfl, by kernel_rfl, by kernel_rfl, by kernel_rfl, by kernel_rfl, by kernel_rfl, by kernel_rfl, by kernel_rfl, by kernel_rfl, by kernel_rfl, by kernel_rfl, by kernel_rfl, by kernel_rfl, by kernel_rfl, by kernel_rfl, by kernel_rfl, by kernel_rfl, by kernel_rfl, by kernel_rfl, by kernel_rfl, by kernel_rfl, by kernel_rfl, by kernel_rfl, by kernel_rfl, by kernel_rfl, by kernel_rfl, by kernel_rfl, by kernel_rfl, by kernel_rfl, by kernel_rfl, by kernel_rfl, by kernel_rfl, by kernel_rfl, by kernel_rfl, by kernel_rfl, by kernel_rfl, by kernel_rfl, by kernel_rfl, by kernel_rfl⟩
theorem tys2 : zcells Go.Proofs.Tryz.prog 28 = [.slice none 0 0] ∧
  ((Go.Proofs.Tryz.prog.info? 28).map (·.bytes)).getD 1000 = 24 ∧
  szT Go.Proofs.Tryz.prog 30 = some 2 ∧
  isAggT Go.Proofs.Tryz.prog 30 = true ∧
  strT Go.Proofs.Tryz.prog 30 = false ∧
  bytesT Go.Proofs.Tryz.prog 30 = false ∧
  refT Go.Proofs.Tryz.prog 30 = true ∧
  (Go.Proofs.Tryz.prog.underlying 30).isSome = true ∧
  fldT Go.Proofs.Tryz.prog 30 0 = some 0 ∧
  fldV Go.Proofs.Tryz.prog 30 0 = some (0, false, 1) ∧
  fldT Go.Proofs.Tryz.prog 30 1 = some 1 ∧
  fldV Go.Proofs.Tryz.prog 30 1 = some (1, false, 1) ∧
  plT Go.Proofs.Tryz.prog 30 = some [(0, 1), (1, 1)] ∧
  intT Go.Proofs.Tryz.prog 30 = none ∧
  kindT Go.Proofs.Tryz.prog 30 = 0 ∧
  (zeroT Go.Proofs.Tryz.prog 30).isSome = true ∧
  zcells Go.Proofs.Tryz.prog 30 = [.slice none 0 0, .slice none 0 0] ∧
  ((Go.Proofs.Tryz.prog.info? 30).map (·.bytes)).getD 1000 = 48 ∧
  szT Go.Proofs.Tryz.prog 32 = some 1 ∧
  isAggT Go.Proofs.Tryz.prog 32 = false ∧
  strT Go.Proofs.Tryz.prog 32 = false ∧
  bytesT Go.Proofs.Tryz.prog 32 = false ∧
  refT Go.Proofs.Tryz.prog 32 = true ∧
  (Go.Proofs.Tryz.prog.underlying 32).isSome = true ∧
  slT Go.Proofs.Tryz.prog 32 = some (78, 2) ∧
  appE Go.Proofs.Tryz.prog 32 = 2 ∧
  appT Go.Proofs.Tryz.prog 32 = 78 ∧
  intT Go.Proofs.Tryz.prog 32 = none ∧
  kindT Go.Proofs.Tryz.prog 32 = 0 ∧
  (zeroT Go.Proofs.Tryz.prog 32).isSome = true ∧
  zcells Go.Proofs.Tryz.prog 32 = [.slice none 0 0] ∧
  ((Go.Proofs.Tryz.prog.info? 32).map (·.bytes)).getD 1000 = 24 ∧
  szT Go.Proofs.Tryz.prog 33 = some 1 ∧
  isAggT Go.Proofs.Tryz.prog 33 = false ∧
  strT Go.Proofs.Tryz.prog 33 = false ∧
  bytesT Go.Proofs.Tryz.prog 33 = false ∧
  refT Go.Proofs.Tryz.prog 33 = true ∧
  (Go.Proofs.Tryz.prog.underlying 33).isSome = true ∧
  slT Go.Proofs.Tryz.prog 33 = some (81, 10) ∧
  appE Go.Proofs.Tryz.prog 33 = 10 ∧
  appT Go.Proofs.Tryz.prog 33 = 81 ∧
  intT Go.Proofs.Tryz.prog 33 = none ∧
  kindT Go.Proofs.Tryz.prog 33 = 0 ∧
  (zeroT Go.Proofs.Tryz.prog 33).isSome = true ∧
  zcells Go.Proofs.Tryz.prog 33 = [.slice none 0 0] ∧
  ((Go.Proofs.Tryz.prog.info? 33).map (·.bytes)).getD 1000 = 24 ∧
  szT Go.Proofs.Tryz.prog 35 = some 4 ∧
  isAggT Go.Proofs.Tryz.prog 35 = true ∧
  strT Go.Proofs.Tryz.prog 35 = false ∧
  bytesT Go.Proofs.Tryz.prog 35 = false ∧
  refT Go.Proofs.Tryz.prog 35 = true ∧
  (Go.Proofs.Tryz.prog.underlying 35).isSome = true ∧
  fldT Go.Proofs.Tryz.prog 35 0 = some 0 ∧
  fldV Go.Proofs.Tryz.prog 35 0 = some (0, false, 1) ∧
  fldT Go.Proofs.Tryz.prog 35 1 = some 1 ∧
  fldV Go.Proofs.Tryz.prog 35 1 = some (1, false, 1) ∧
  fldT Go.Proofs.Tryz.prog 35 2 = some 2 ∧
  fldV Go.Proofs.Tryz.prog 35 2 = some (2, false, 1) ∧
  fldT Go.Proofs.Tryz.prog 35 3 = some 3 ∧
  fldV Go.Proofs.Tryz.prog 35 3 = some (3, false, 1) :=
  ⟨by kernel_rfl, by kernel_rfl, by kernel_rfl, by kernel_rfl, by kernel_rfl, by kernel_rfl, by kernel_rfl, by kernel_rfl, by kernel_rfl, by kernel_rfl, by kernel_rfl, by kernel_rfl, by kernel_rfl, by kernel_rfl, by kernel_rfl, by kernel_rfl, by kernel_rfl, by kernel_rfl, by kernel_rfl, by kernel_rfl, by kernel_rfl, by kernel_rfl, by kernel_rfl, by kernel_rfl, by kernel_rfl, by kernel_rfl, by kernel_rfl, by kernel_rfl, by kernel_rfl, by kernel_rfl, by kernel_rfl, by kernel_rfl, by kernel_rfl, by kernel_rfl, by kernel_rfl, by kernel_rfl, by kernel_rfl, by kernel_rfl, by kernel_rfl, by kernel_rfl, by kernel_rfl, by kernel_rfl, by kernel_rfl, by kernel_rfl, by kernel_rfl, by kernel_rfl, by kernel_rfl, by kernel_rfl, by kernel_rfl, by kernel_rfl, by kernel_rfl, by kernel_rfl, by kernel_rfl, by kernel_rfl, by kernel_rfl, by kernel_rfl, by kernel_rfl, by kernel_rfl, by kernel_rfl, by kernel_rfl⟩
theorem tys3 : plT Go.Proofs.Tryz.prog 35 = some [(0, 1), (1, 1), (2, 1), (3, 1)] ∧
  intT Go.Proofs.Tryz.prog 35 = none ∧
  kindT Go.Proofs.Tryz.prog 35 = 0 ∧
  (zeroT Go.Proofs.Tryz.prog 35).isSome = true ∧
  zcells Go.Proofs.Tryz.prog 35 = [.int .i64 0, .slice none 0 0, .slice none 0 0, .slice none 0 0] ∧
  ((Go.Proofs.Tryz.prog.info? 35).map (·.bytes)).getD 1000 = 80 ∧
  szT Go.Proofs.Tryz.prog 42 = some 1 ∧
  isAggT Go.Proofs.Tryz.prog 42 = false ∧
  strT Go.Proofs.Tryz.prog 42 = false ∧
  bytesT Go.Proofs.Tryz.prog 42 = false ∧
  refT Go.Proofs.Tryz.prog 42 = true ∧
  (Go.Proofs.Tryz.prog.underlying 42).isSome = true ∧
  slT Go.Proofs.Tryz.prog 42 = some (104, 2) ∧
  appE Go.Proofs.Tryz.prog 42 = 2 ∧
  appT Go.Proofs.Tryz.prog 42 = 104 ∧
  intT Go.Proofs.Tryz.prog 42 = none ∧
  kindT Go.Proofs.Tryz.prog 42 = 0 ∧
  (zeroT Go.Proofs.Tryz.prog 42).isSome = true ∧
  zcells Go.Proofs.Tryz.prog 42 = [.slice none 0 0] ∧
  ((Go.Proofs.Tryz.prog.info? 42).map (·.bytes)).getD 1000 = 24 ∧
  szT Go.Proofs.Tryz.prog 44 = some 2 ∧
  isAggT Go.Proofs.Tryz.prog 44 = true ∧
  strT Go.Proofs.Tryz.prog 44 = false ∧
  bytesT Go.Proofs.Tryz.prog 44 = false ∧
  refT Go.Proofs.Tryz.prog 44 = true ∧
  (Go.Proofs.Tryz.prog.underlying 44).isSome = true ∧
  fldT Go.Proofs.Tryz.prog 44 0 = some 0 ∧
  fldV Go.Proofs.Tryz.prog 44 0 = some (0, false, 1) ∧
  fldT Go.Proofs.Tryz.prog 44 1 = some 1 ∧
  fldV Go.Proofs.Tryz.prog 44 1 = some (1, false, 1) ∧
  plT Go.Proofs.Tryz.prog 44 = some [(0, 1), (1, 1)] ∧
  intT Go.Proofs.Tryz.prog 44 = none ∧
  kindT Go.Proofs.Tryz.prog 44 = 0 ∧
  (zeroT Go.Proofs.Tryz.prog 44).isSome = true ∧
  zcells Go.Proofs.Tryz.prog 44 = [.slice none 0 0, .slice none 0 0] ∧
  ((Go.Proofs.Tryz.prog.info? 44).map (·.bytes)).getD 1000 = 48 ∧
  refT Go.Proofs.Tryz.prog 46 = false ∧
  szT Go.Proofs.Tryz.prog 72 = some 1 ∧
  isAggT Go.Proofs.Tryz.prog 72 = false ∧
  strT Go.Proofs.Tryz.prog 72 = false ∧
  bytesT Go.Proofs.Tryz.prog 72 = false ∧
  refT Go.Proofs.Tryz.prog 72 = true ∧
  (Go.Proofs.Tryz.prog.underlying 72).isSome = true ∧
  slT Go.Proofs.Tryz.prog 72 = some (3, 1) ∧
  appE Go.Proofs.Tryz.prog 72 = 1 ∧
  appT Go.Proofs.Tryz.prog 72 = 3 ∧
  intT Go.Proofs.Tryz.prog 72 = none ∧
  kindT Go.Proofs.Tryz.prog 72 = 0 ∧
  (zeroT Go.Proofs.Tryz.prog 72).isSome = true ∧
  zcells Go.Proofs.Tryz.prog 72 = [.slice none 0 0] ∧
  ((Go.Proofs.Tryz.prog.info? 72).map (·.bytes)).getD 1000 = 24 ∧
  szT Go.Proofs.Tryz.prog 73 = some 1 ∧
  isAggT Go.Proofs.Tryz.prog 73 = false ∧
  strT Go.Proofs.Tryz.prog 73 = false ∧
  bytesT Go.Proofs.Tryz.prog 73 = false ∧
  refT Go.Proofs.Tryz.prog 73 = true ∧
  (Go.Proofs.Tryz.prog.underlying 73).isSome = true ∧
  slT Go.Proofs.Tryz.prog 73 = some (135, 3) ∧
  appE Go.Proofs.Tryz.prog 73 = 3 ∧
  appT Go.Proofs.Tryz.prog 73 = 135 :=
  ⟨by kernel_rfl, by kernel_rfl, by kernel_rfl, by kernel_rfl, by kernel_rfl, by kernel_rfl, by kernel_rfl, by kernel_rfl, by kernel_rfl, by kernel_rfl, by kernel_rfl, by kernel_rfl, by kernel_rfl, by kernel_rfl, by kernel_rfl, by kernel_rfl, by kernel_rfl, by kernel_rfl, by kernel_rfl, by kernel_rfl, by kernel_rfl, by kernel_rfl, by kernel_rfl, by kernel_rfl, by kernel_rfl, by kernel_rfl, by kernel_rfl, by kernel_rfl, by kernel_rfl, by kernel_rfl, by kernel_rfl, by kernel_rfl, by kernel_rfl, by kernel_rfl, by kernel_rfl, by kernel_rfl, by kernel_rfl, by kernel_rfl, by kernel_rfl, by kernel_rfl, by kernel_rfl, by kernel_rfl, by kernel_rfl, by kernel_rfl, by kernel_rfl, by kernel_rfl, by kernel_rfl, by kernel_rfl, by kernel_rfl, by kernel_rfl, by kernel_rfl, by kernel_rfl, by kernel_rfl, by kernel_rfl, by kernel_rfl, by kernel_rfl, by kernel_rfl, by kernel_rfl, by kernel_rfl, by kernel_rfl⟩
theorem tys4 : intT Go.Proofs.Tryz.prog 73 = none ∧
  kindT Go.Proofs.Tryz.prog 73 = 0 ∧
  (zeroT Go.Proofs.Tryz.prog 73).isSome = true ∧
  zcells Go.Proofs.Tryz.prog 73 = [.slice none 0 0] ∧
  ((Go.Proofs.Tryz.prog.info? 73).map (·.bytes)).getD 1000 = 24 ∧
  szT Go.Proofs.Tryz.prog 75 = some 10 ∧
  isAggT Go.Proofs.Tryz.prog 75 = true ∧
  strT Go.Proofs.Tryz.prog 75 = false ∧
  bytesT Go.Proofs.Tryz.prog 75 = false ∧
  refT Go.Proofs.Tryz.prog 75 = true ∧
  (Go.Proofs.Tryz.prog.underlying 75).isSome = true ∧
  fldT Go.Proofs.Tryz.prog 75 0 = some 0 ∧
  fldV Go.Proofs.Tryz.prog 75 0 = some (0, false, 1) ∧
  fldT Go.Proofs.Tryz.prog 75 1 = some 1 ∧
  fldV Go.Proofs.Tryz.prog 75 1 = some (1, false, 1) ∧
  fldT Go.Proofs.Tryz.prog 75 2 = some 2 ∧
  fldV Go.Proofs.Tryz.prog 75 2 = some (2, false, 1) ∧
  fldT Go.Proofs.Tryz.prog 75 3 = some 3 ∧
  fldV Go.Proofs.Tryz.prog 75 3 = some (3, false, 1) ∧
  fldT Go.Proofs.Tryz.prog 75 4 = some 4 ∧
  fldV Go.Proofs.Tryz.prog 75 4 = some (4, false, 1) ∧
  fldT Go.Proofs.Tryz.prog 75 5 = some 5 ∧
  fldV Go.Proofs.Tryz.prog 75 5 = some (5, false, 1) ∧
  fldT Go.Proofs.Tryz.prog 75 6 = some 6 ∧
  fldV Go.Proofs.Tryz.prog 75 6 = some (6, false, 1) ∧
  fldT Go.Proofs.Tryz.prog 75 7 = some 7 ∧
  fldV Go.Proofs.Tryz.prog 75 7 = some (7, false, 1) ∧
  fldT Go.Proofs.Tryz.prog 75 8 = some 8 ∧
  fldV Go.Proofs.Tryz.prog 75 8 = some (8, false, 1) ∧
  fldT Go.Proofs.Tryz.prog 75 9 = some 9 ∧
  fldV Go.Proofs.Tryz.prog 75 9 = some (9, false, 1) ∧
  plT Go.Proofs.Tryz.prog 75 = some [(0, 1), (1, 1), (2, 1), (3, 1), (4, 1), (5, 1), (6, 1), (7, 1), (8, 1), (9, 1)] ∧
  intT Go.Proofs.Tryz.prog 75 = none ∧
  kindT Go.Proofs.Tryz.prog 75 = 0 ∧
  (zeroT Go.Proofs.Tryz.prog 75).isSome = true ∧
  zcells Go.Proofs.Tryz.prog 75 = [.int .i64 0, .int .i64 0, .int .i64 0, .int .i64 0, .int .i64 0, .int .i64 0, .int .i64 0, .slice none 0 0, .slice none 0 0, .slice none 0 0] ∧
  ((Go.Proofs.Tryz.prog.info? 75).map (·.bytes)).getD 1000 = 128 ∧
  szT Go.Proofs.Tryz.prog 78 = some 2 ∧
  isAggT Go.Proofs.Tryz.prog 78 = true ∧
  strT Go.Proofs.Tryz.prog 78 = false ∧
  bytesT Go.Proofs.Tryz.prog 78 = false ∧
  refT Go.Proofs.Tryz.prog 78 = false ∧
  (Go.Proofs.Tryz.prog.underlying 78).isSome = true ∧
  fldT Go.Proofs.Tryz.prog 78 0 = some 0 ∧
  fldV Go.Proofs.Tryz.prog 78 0 = some (0, false, 1) ∧
  fldT Go.Proofs.Tryz.prog 78 1 = some 1 ∧
  fldV Go.Proofs.Tryz.prog 78 1 = some (1, false, 1) ∧
  plT Go.Proofs.Tryz.prog 78 = some [(0, 1), (1, 1)] ∧
  flatEqT Go.Proofs.Tryz.prog 78 = some [1, 1] ∧
  intT Go.Proofs.Tryz.prog 78 = none ∧
  kindT Go.Proofs.Tryz.prog 78 = 0 ∧
  (zeroT Go.Proofs.Tryz.prog 78).isSome = true ∧
  zcells Go.Proofs.Tryz.prog 78 = [.int .i64 0, .int .i64 0] ∧
  ((Go.Proofs.Tryz.prog.info? 78).map (·.bytes)).getD 1000 = 16 ∧
  szT Go.Proofs.Tryz.prog 79 = some 1 ∧
  isAggT Go.Proofs.Tryz.prog 79 = false ∧
  strT Go.Proofs.Tryz.prog 79 = false ∧
  bytesT Go.Proofs.Tryz.prog 79 = false ∧
  refT Go.Proofs.Tryz.prog 79 = true ∧
  (Go.Proofs.Tryz.prog.underlying 79).isSome = true :=
  ⟨by kernel_rfl, by kernel_rfl, by kernel_rfl, by kernel_rfl, by kernel_rfl, by kernel_rfl, by kernel_rfl, by kernel_rfl, by kernel_rfl, by kernel_rfl, by kernel_rfl, by kernel_rfl, by kernel_rfl, by kernel_rfl, by kernel_rfl, by kernel_rfl, by kernel_rfl, by kernel_rfl, by kernel_rfl, by kernel_rfl, by kernel_rfl, by kernel_rfl, by kernel_rfl, by kernel_rfl, by kernel_rfl, by kernel_rfl, by kernel_rfl, by kernel_rfl, by kernel_rfl, by kernel_rfl, by kernel_rfl, by kernel_rfl, by kernel_rfl, by kernel_rfl, by kernel_rfl, by kernel_rfl, by kernel_rfl, by kernel_rfl, by kernel_rfl, by kernel_rfl, by kernel_rfl, by kernel_rfl, by kernel_rfl, by kernel_rfl, by kernel_rfl, by kernel_rfl, by kernel_rfl, by kernel_rfl, by kernel_rfl, by kernel_rfl, by kernel_rfl, by kernel_rfl, by kernel_rfl, by kernel_rfl, by kernel_rfl, by kernel_rfl, by kernel_rfl, by kernel_rfl, by kernel_rfl, by kernel_rfl⟩
theorem tys5 : slT Go.Proofs.Tryz.prog 79 = some (130, 3) ∧
  appE Go.Proofs.Tryz.prog 79 = 3 ∧
  appT Go.Proofs.Tryz.prog 79 = 130 ∧
  intT Go.Proofs.Tryz.prog 79 = none ∧
  kindT Go.Proofs.Tryz.prog 79 = 0 ∧
  (zeroT Go.Proofs.Tryz.prog 79).isSome = true ∧
  zcells Go.Proofs.Tryz.prog 79 = [.slice none 0 0] ∧
  ((Go.Proofs.Tryz.prog.info? 79).map (·.bytes)).getD 1000 = 24 ∧
  szT Go.Proofs.Tryz.prog 81 = some 10 ∧
  isAggT Go.Proofs.Tryz.prog 81 = true ∧
  strT Go.Proofs.Tryz.prog 81 = false ∧
  bytesT Go.Proofs.Tryz.prog 81 = false ∧
  refT Go.Proofs.Tryz.prog 81 = true ∧
  (Go.Proofs.Tryz.prog.underlying 81).isSome = true ∧
  fldT Go.Proofs.Tryz.prog 81 0 = some 0 ∧
  fldV Go.Proofs.Tryz.prog 81 0 = some (0, false, 1) ∧
  fldT Go.Proofs.Tryz.prog 81 1 = some 1 ∧
  fldV Go.Proofs.Tryz.prog 81 1 = some (1, false, 1) ∧
  fldT Go.Proofs.Tryz.prog 81 2 = some 2 ∧
  fldV Go.Proofs.Tryz.prog 81 2 = some (2, false, 1) ∧
  fldT Go.Proofs.Tryz.prog 81 3 = some 3 ∧
  fldV Go.Proofs.Tryz.prog 81 3 = some (3, false, 1) ∧
  fldT Go.Proofs.Tryz.prog 81 4 = some 4 ∧
  fldV Go.Proofs.Tryz.prog 81 4 = some (4, false, 1) ∧
  fldT Go.Proofs.Tryz.prog 81 5 = some 5 ∧
  fldV Go.Proofs.Tryz.prog 81 5 = some (5, false, 1) ∧
  fldT Go.Proofs.Tryz.prog 81 6 = some 6 ∧
  fldV Go.Proofs.Tryz.prog 81 6 = some (6, false, 1) ∧
  fldT Go.Proofs.Tryz.prog 81 7 = some 7 ∧
  fldV Go.Proofs.Tryz.prog 81 7 = some (7, false, 1) ∧
  fldT Go.Proofs.Tryz.prog 81 8 = some 8 ∧
  fldV Go.Proofs.Tryz.prog 81 8 = some (8, false, 1) ∧
  fldT Go.Proofs.Tryz.prog 81 9 = some 9 ∧
  fldV Go.Proofs.Tryz.prog 81 9 = some (9, false, 1) ∧
  plT Go.Proofs.Tryz.prog 81 = some [(0, 1), (1, 1), (2, 1), (3, 1), (4, 1), (5, 1), (6, 1), (7, 1), (8, 1), (9, 1)] ∧
  intT Go.Proofs.Tryz.prog 81 = none ∧
  kindT Go.Proofs.Tryz.prog 81 = 0 ∧
  (zeroT Go.Proofs.Tryz.prog 81).isSome = true ∧
  zcells Go.Proofs.Tryz.prog 81 = [.int .i64 0, .int .i64 0, .int .i64 0, .int .i64 0, .int .i64 0, .int .i64 0, .int .i64 0, .slice none 0 0, .slice none 0 0, .slice none 0 0] ∧
  ((Go.Proofs.Tryz.prog.info? 81).map (·.bytes)).getD 1000 = 128 ∧
  szT Go.Proofs.Tryz.prog 83 = some 1 ∧
  isAggT Go.Proofs.Tryz.prog 83 = false ∧
  strT Go.Proofs.Tryz.prog 83 = false ∧
  bytesT Go.Proofs.Tryz.prog 83 = false ∧
  refT Go.Proofs.Tryz.prog 83 = true ∧
  (Go.Proofs.Tryz.prog.underlying 83).isSome = true ∧
  slT Go.Proofs.Tryz.prog 83 = some (4, 1) ∧
  appE Go.Proofs.Tryz.prog 83 = 1 ∧
  appT Go.Proofs.Tryz.prog 83 = 4 ∧
  intT Go.Proofs.Tryz.prog 83 = none ∧
  kindT Go.Proofs.Tryz.prog 83 = 0 ∧
  (zeroT Go.Proofs.Tryz.prog 83).isSome = true ∧
  zcells Go.Proofs.Tryz.prog 83 = [.slice none 0 0] ∧
  ((Go.Proofs.Tryz.prog.info? 83).map (·.bytes)).getD 1000 = 24 ∧
  refT Go.Proofs.Tryz.prog 84 = false ∧
  szT Go.Proofs.Tryz.prog 92 = some 2 ∧
  isAggT Go.Proofs.Tryz.prog 92 = true ∧
  strT Go.Proofs.Tryz.prog 92 = false ∧
  bytesT Go.Proofs.Tryz.prog 92 = false ∧
  refT Go.Proofs.Tryz.prog 92 = false :=
  ⟨by kernel_rfl, by kernel_rfl, by kernel_rfl, by kernel_rfl, by kernel_rfl, by kernel_rfl, by kernel_rfl, by kernel_rfl, by kernel_rfl, by kernel_rfl, by kernel_rfl, by kernel_rfl, by kernel_rfl, by kernel_rfl, by kernel_rfl, by kernel_rfl, by kernel_rfl, by kernel_rfl, by kernel_rfl, by kernel_rfl, by kernel_rfl, by kernel_rfl, by kernel_rfl, by kernel_rfl, by kernel_rfl, by kernel_rfl, by kernel_rfl, by kernel_rfl, by kernel_rfl, by kernel_rfl, by kernel_rfl, by kernel_rfl, by kernel_rfl, by kernel_rfl, by kernel_rfl, by kernel_rfl, by kernel_rfl, by kernel_rfl, by kernel_rfl, by kernel_rfl, by kernel_rfl, by kernel_rfl, by kernel_rfl, by kernel_rfl, by kernel_rfl, by kernel_rfl, by kernel_rfl, by kernel_rfl, by kernel_rfl, by kernel_rfl, by kernel_rfl, by kernel_rfl, by kernel_rfl, by kernel_rfl, by kernel_rfl, by kernel_rfl, by kernel_rfl, by kernel_rfl, by kernel_rfl, by kernel_rfl⟩
theorem tys6 : (Go.Proofs.Tryz.prog.underlying 92).isSome = true ∧
  fldT Go.Proofs.Tryz.prog 92 0 = some 0 ∧
  fldV Go.Proofs.Tryz.prog 92 0 = some (0, false, 1) ∧
  fldT Go.Proofs.Tryz.prog 92 1 = some 1 ∧
  fldV Go.Proofs.Tryz.prog 92 1 = some (1, false, 1) ∧
  plT Go.Proofs.Tryz.prog 92 = some [(0, 1), (1, 1)] ∧
  flatEqT Go.Proofs.Tryz.prog 92 = some [1, 1] ∧
  intT Go.Proofs.Tryz.prog 92 = none ∧
  kindT Go.Proofs.Tryz.prog 92 = 0 ∧
  (zeroT Go.Proofs.Tryz.prog 92).isSome = true ∧
  zcells Go.Proofs.Tryz.prog 92 = [.int .i64 0, .int .i64 0] ∧
  ((Go.Proofs.Tryz.prog.info? 92).map (·.bytes)).getD 1000 = 16 ∧
  szT Go.Proofs.Tryz.prog 98 = some 2 ∧
  isAggT Go.Proofs.Tryz.prog 98 = true ∧
  strT Go.Proofs.Tryz.prog 98 = false ∧
  bytesT Go.Proofs.Tryz.prog 98 = false ∧
  refT Go.Proofs.Tryz.prog 98 = false ∧
  (Go.Proofs.Tryz.prog.underlying 98).isSome = true ∧
  fldT Go.Proofs.Tryz.prog 98 0 = some 0 ∧
  fldV Go.Proofs.Tryz.prog 98 0 = some (0, false, 1) ∧
  fldT Go.Proofs.Tryz.prog 98 1 = some 1 ∧
  fldV Go.Proofs.Tryz.prog 98 1 = some (1, false, 1) ∧
  plT Go.Proofs.Tryz.prog 98 = some [(0, 1), (1, 1)] ∧
  flatEqT Go.Proofs.Tryz.prog 98 = some [1, 3] ∧
  intT Go.Proofs.Tryz.prog 98 = none ∧
  kindT Go.Proofs.Tryz.prog 98 = 0 ∧
  (zeroT Go.Proofs.Tryz.prog 98).isSome = true ∧
  zcells Go.Proofs.Tryz.prog 98 = [.int .i64 0, str []] ∧
  ((Go.Proofs.Tryz.prog.info? 98).map (·.bytes)).getD 1000 = 24 ∧
  szT Go.Proofs.Tryz.prog 104 = some 2 ∧
  isAggT Go.Proofs.Tryz.prog 104 = true ∧
  strT Go.Proofs.Tryz.prog 104 = false ∧
  bytesT Go.Proofs.Tryz.prog 104 = false ∧
  refT Go.Proofs.Tryz.prog 104 = false ∧
  (Go.Proofs.Tryz.prog.underlying 104).isSome = true ∧
  fldT Go.Proofs.Tryz.prog 104 0 = some 0 ∧
  fldV Go.Proofs.Tryz.prog 104 0 = some (0, false, 1) ∧
  fldT Go.Proofs.Tryz.prog 104 1 = some 1 ∧
  fldV Go.Proofs.Tryz.prog 104 1 = some (1, false, 1) ∧
  plT Go.Proofs.Tryz.prog 104 = some [(0, 1), (1, 1)] ∧
  flatEqT Go.Proofs.Tryz.prog 104 = some [1, 3] ∧
  intT Go.Proofs.Tryz.prog 104 = none ∧
  kindT Go.Proofs.Tryz.prog 104 = 0 ∧
  (zeroT Go.Proofs.Tryz.prog 104).isSome = true ∧
  zcells Go.Proofs.Tryz.prog 104 = [.int .i64 0, str []] ∧
  ((Go.Proofs.Tryz.prog.info? 104).map (·.bytes)).getD 1000 = 24 ∧
  refT Go.Proofs.Tryz.prog 105 = false ∧
  refT Go.Proofs.Tryz.prog 107 = false ∧
  refT Go.Proofs.Tryz.prog 110 = false ∧
  refT Go.Proofs.Tryz.prog 114 = false ∧
  szT Go.Proofs.Tryz.prog 118 = some 1 ∧
  isAggT Go.Proofs.Tryz.prog 118 = false ∧
  strT Go.Proofs.Tryz.prog 118 = false ∧
  bytesT Go.Proofs.Tryz.prog 118 = true ∧
  refT Go.Proofs.Tryz.prog 118 = true ∧
  (Go.Proofs.Tryz.prog.underlying 118).isSome = true ∧
  slT Go.Proofs.Tryz.prog 118 = some (5, 1) ∧
  appE Go.Proofs.Tryz.prog 118 = 1 ∧
  appT Go.Proofs.Tryz.prog 118 = 5 ∧
  intT Go.Proofs.Tryz.prog 118 = none :=
  ⟨by kernel_rfl, by kernel_rfl, by kernel_rfl, by kernel_rfl, by kernel_rfl, by kernel_rfl, by kernel_rfl, by kernel_rfl, by kernel_rfl, by kernel_rfl, by kernel_rfl, by kernel_rfl, by kernel_rfl, by kernel_rfl, by kernel_rfl, by kernel_rfl, by kernel_rfl, by kernel_rfl, by kernel_rfl, by kernel_rfl, by kernel_rfl, by kernel_rfl, by kernel_rfl, by kernel_rfl, by kernel_rfl, by kernel_rfl, by kernel_rfl, by kernel_rfl, by kernel_rfl, by kernel_rfl, by kernel_rfl, by kernel_rfl, by kernel_rfl, by kernel_rfl, by kernel_rfl, by kernel_rfl, by kernel_rfl, by kernel_rfl, by kernel_rfl, by kernel_rfl, by kernel_rfl, by kernel_rfl, by kernel_rfl, by kernel_rfl, by kernel_rfl, by kernel_rfl, by kernel_rfl, by kernel_rfl, by kernel_rfl, by kernel_rfl, by kernel_rfl, by kernel_rfl, by kernel_rfl, by kernel_rfl, by kernel_rfl, by kernel_rfl, by kernel_rfl, by kernel_rfl, by kernel_rfl, by kernel_rfl⟩
theorem tys7 : kindT Go.Proofs.Tryz.prog 118 = 0 ∧
  (zeroT Go.Proofs.Tryz.prog 118).isSome = true ∧
  zcells Go.Proofs.Tryz.prog 118 = [.slice none 0 0] ∧
  ((Go.Proofs.Tryz.prog.info? 118).map (·.bytes)).getD 1000 = 24 ∧
  szT Go.Proofs.Tryz.prog 122 = some 56 ∧
  isAggT Go.Proofs.Tryz.prog 122 = true ∧
  strT Go.Proofs.Tryz.prog 122 = false ∧
  bytesT Go.Proofs.Tryz.prog 122 = false ∧
  (Go.Proofs.Tryz.prog.underlying 122).isSome = true ∧
  arT Go.Proofs.Tryz.prog 122 = some (56, 4, 1) ∧
  intT Go.Proofs.Tryz.prog 122 = none ∧
  kindT Go.Proofs.Tryz.prog 122 = 0 ∧
  (zeroT Go.Proofs.Tryz.prog 122).isSome = true ∧
  zcells Go.Proofs.Tryz.prog 122 = List.replicate 56 (.bool false) ∧
  ((Go.Proofs.Tryz.prog.info? 122).map (·.bytes)).getD 1000 = 56 ∧
  refT Go.Proofs.Tryz.prog 123 = false ∧
  szT Go.Proofs.Tryz.prog 124 = some 1 ∧
  isAggT Go.Proofs.Tryz.prog 124 = false ∧
  strT Go.Proofs.Tryz.prog 124 = false ∧
  bytesT Go.Proofs.Tryz.prog 124 = false ∧
  refT Go.Proofs.Tryz.prog 124 = false ∧
  (Go.Proofs.Tryz.prog.underlying 124).isSome = true ∧
  intT Go.Proofs.Tryz.prog 124 = some .u64 ∧
  kindT Go.Proofs.Tryz.prog 124 = 1 ∧
  (zeroT Go.Proofs.Tryz.prog 124).isSome = true ∧
  zcells Go.Proofs.Tryz.prog 124 = [.int .u64 0] ∧
  ((Go.Proofs.Tryz.prog.info? 124).map (·.bytes)).getD 1000 = 8 ∧
  refT Go.Proofs.Tryz.prog 125 = false ∧
  szT Go.Proofs.Tryz.prog 130 = some 3 ∧
  isAggT Go.Proofs.Tryz.prog 130 = true ∧
  strT Go.Proofs.Tryz.prog 130 = false ∧
  bytesT Go.Proofs.Tryz.prog 130 = false ∧
  refT Go.Proofs.Tryz.prog 130 = false ∧
  (Go.Proofs.Tryz.prog.underlying 130).isSome = true ∧
  fldT Go.Proofs.Tryz.prog 130 0 = some 0 ∧
  fldV Go.Proofs.Tryz.prog 130 0 = some (0, false, 1) ∧
  fldT Go.Proofs.Tryz.prog 130 1 = some 1 ∧
  fldV Go.Proofs.Tryz.prog 130 1 = some (1, false, 1) ∧
  fldT Go.Proofs.Tryz.prog 130 2 = some 2 ∧
  fldV Go.Proofs.Tryz.prog 130 2 = some (2, false, 1) ∧
  plT Go.Proofs.Tryz.prog 130 = some [(0, 1), (1, 1), (2, 1)] ∧
  flatEqT Go.Proofs.Tryz.prog 130 = some [1, 1, 1] ∧
  intT Go.Proofs.Tryz.prog 130 = none ∧
  kindT Go.Proofs.Tryz.prog 130 = 0 ∧
  (zeroT Go.Proofs.Tryz.prog 130).isSome = true ∧
  zcells Go.Proofs.Tryz.prog 130 = [.int .i64 0, .int .i64 0, .int .i64 0] ∧
  ((Go.Proofs.Tryz.prog.info? 130).map (·.bytes)).getD 1000 = 24 ∧
  refT Go.Proofs.Tryz.prog 131 = false ∧
  szT Go.Proofs.Tryz.prog 135 = some 3 ∧
  isAggT Go.Proofs.Tryz.prog 135 = true ∧
  strT Go.Proofs.Tryz.prog 135 = false ∧
  bytesT Go.Proofs.Tryz.prog 135 = false ∧
  refT Go.Proofs.Tryz.prog 135 = false ∧
  (Go.Proofs.Tryz.prog.underlying 135).isSome = true ∧
  fldT Go.Proofs.Tryz.prog 135 0 = some 0 ∧
  fldV Go.Proofs.Tryz.prog 135 0 = some (0, false, 1) ∧
  fldT Go.Proofs.Tryz.prog 135 1 = some 1 ∧
  fldV Go.Proofs.Tryz.prog 135 1 = some (1, false, 1) ∧
  fldT Go.Proofs.Tryz.prog 135 2 = some 2 ∧
  fldV Go.Proofs.Tryz.prog 135 2 = some (2, false, 1) :=
  ⟨by kernel_rfl, by kernel_rfl, by kernel_rfl, by kernel_rfl, by kernel_rfl, by kernel_rfl, by kernel_rfl, by kernel_rfl, by kernel_rfl, by kernel_rfl, by kernel_rfl, by kernel_rfl, by kernel_rfl, by kernel_rfl, by kernel_rfl, by kernel_rfl, by kernel_rfl, by kernel_rfl, by kernel_rfl, by kernel_rfl, by kernel_rfl, by kernel_rfl, by kernel_rfl, by kernel_rfl, by kernel_rfl, by kernel_rfl, by kernel_rfl, by kernel_rfl, by kernel_rfl, by kernel_rfl, by kernel_rfl, by kernel_rfl, by kernel_rfl, by kernel_rfl, by kernel_rfl, by kernel_rfl, by kernel_rfl, by kernel_rfl, by kernel_rfl, by kernel_rfl, by kernel_rfl, by kernel_rfl, by kernel_rfl, by kernel_rfl, by kernel_rfl, by kernel_rfl, by kernel_rfl, by kernel_rfl, by kernel_rfl, by kernel_rfl, by kernel_rfl, by kernel_rfl, by kernel_rfl, by kernel_rfl, by kernel_rfl, by kernel_rfl, by kernel_rfl, by kernel_rfl, by kernel_rfl, by kernel_rfl⟩
theorem tys8 : plT Go.Proofs.Tryz.prog 135 = some [(0, 1), (1, 1), (2, 1)] ∧
  flatEqT Go.Proofs.Tryz.prog 135 = some [1, 1, 1] ∧
  intT Go.Proofs.Tryz.prog 135 = none ∧
  kindT Go.Proofs.Tryz.prog 135 = 0 ∧
  (zeroT Go.Proofs.Tryz.prog 135).isSome = true ∧
  zcells Go.Proofs.Tryz.prog 135 = [.int .i64 0, .int .i64 0, .int .i64 0] ∧
  ((Go.Proofs.Tryz.prog.info? 135).map (·.bytes)).getD 1000 = 24 ∧
  szT Go.Proofs.Tryz.prog 136 = some 1 ∧
  isAggT Go.Proofs.Tryz.prog 136 = false ∧
  strT Go.Proofs.Tryz.prog 136 = false ∧
  bytesT Go.Proofs.Tryz.prog 136 = false ∧
  refT Go.Proofs.Tryz.prog 136 = false ∧
  (Go.Proofs.Tryz.prog.underlying 136).isSome = true ∧
  intT Go.Proofs.Tryz.prog 136 = some .u32 ∧
  kindT Go.Proofs.Tryz.prog 136 = 1 ∧
  (zeroT Go.Proofs.Tryz.prog 136).isSome = true ∧
  zcells Go.Proofs.Tryz.prog 136 = [.int .u32 0] ∧
  ((Go.Proofs.Tryz.prog.info? 136).map (·.bytes)).getD 1000 = 4 ∧
  refT Go.Proofs.Tryz.prog 137 = false ∧
  szT Go.Proofs.Tryz.prog 139 = some 1 ∧
  isAggT Go.Proofs.Tryz.prog 139 = false ∧
  strT Go.Proofs.Tryz.prog 139 = false ∧
  bytesT Go.Proofs.Tryz.prog 139 = false ∧
  refT Go.Proofs.Tryz.prog 139 = false ∧
  (Go.Proofs.Tryz.prog.underlying 139).isSome = true ∧
  intT Go.Proofs.Tryz.prog 139 = some .u64 ∧
  kindT Go.Proofs.Tryz.prog 139 = 1 ∧
  (zeroT Go.Proofs.Tryz.prog 139).isSome = true ∧
  zcells Go.Proofs.Tryz.prog 139 = [.int .u64 0] ∧
  ((Go.Proofs.Tryz.prog.info? 139).map (·.bytes)).getD 1000 = 8 ∧
  refT Go.Proofs.Tryz.prog 140 = false ∧
  szT Go.Proofs.Tryz.prog 143 = some 1 ∧
  isAggT Go.Proofs.Tryz.prog 143 = false ∧
  strT Go.Proofs.Tryz.prog 143 = false ∧
  bytesT Go.Proofs.Tryz.prog 143 = false ∧
  refT Go.Proofs.Tryz.prog 143 = false ∧
  (Go.Proofs.Tryz.prog.underlying 143).isSome = true ∧
  intT Go.Proofs.Tryz.prog 143 = none ∧
  kindT Go.Proofs.Tryz.prog 143 = 4 ∧
  (zeroT Go.Proofs.Tryz.prog 143).isSome = true ∧
  zcells Go.Proofs.Tryz.prog 143 = [.pointer none] ∧
  ((Go.Proofs.Tryz.prog.info? 143).map (·.bytes)).getD 1000 = 8 ∧
  szT Go.Proofs.Tryz.prog 145 = some 2 ∧
  isAggT Go.Proofs.Tryz.prog 145 = true ∧
  strT Go.Proofs.Tryz.prog 145 = false ∧
  bytesT Go.Proofs.Tryz.prog 145 = false ∧
  (Go.Proofs.Tryz.prog.underlying 145).isSome = true ∧
  fldT Go.Proofs.Tryz.prog 145 0 = some 0 ∧
  fldV Go.Proofs.Tryz.prog 145 0 = some (0, false, 1) ∧
  fldT Go.Proofs.Tryz.prog 145 1 = some 1 ∧
  fldV Go.Proofs.Tryz.prog 145 1 = some (1, false, 1) ∧
  plT Go.Proofs.Tryz.prog 145 = some [(0, 1), (1, 1)] ∧
  intT Go.Proofs.Tryz.prog 145 = none ∧
  kindT Go.Proofs.Tryz.prog 145 = 0 ∧
  (zeroT Go.Proofs.Tryz.prog 145).isSome = true ∧
  zcells Go.Proofs.Tryz.prog 145 = [.pointer none, .slice none 0 0] ∧
  ((Go.Proofs.Tryz.prog.info? 145).map (·.bytes)).getD 1000 = 32 ∧
  refT Go.Proofs.Tryz.prog 148 = false ∧
  refT Go.Proofs.Tryz.prog 149 = false ∧
  szT Go.Proofs.Tryz.prog 155 = some 1 :=
  ⟨by kernel_rfl, by kernel_rfl, by kernel_rfl, by kernel_rfl, by kernel_rfl, by kernel_rfl, by kernel_rfl, by kernel_rfl, by kernel_rfl, by kernel_rfl, by kernel_rfl, by kernel_rfl, by kernel_rfl, by kernel_rfl, by kernel_rfl, by kernel_rfl, by kernel_rfl, by kernel_rfl, by kernel_rfl, by kernel_rfl, by kernel_rfl, by kernel_rfl, by kernel_rfl, by kernel_rfl, by kernel_rfl, by kernel_rfl, by kernel_rfl, by kernel_rfl, by kernel_rfl, by kernel_rfl, by kernel_rfl, by kernel_rfl, by kernel_rfl, by kernel_rfl, by kernel_rfl, by kernel_rfl, by kernel_rfl, by kernel_rfl, by kernel_rfl, by kernel_rfl, by kernel_rfl, by kernel_rfl, by kernel_rfl, by kernel_rfl, by kernel_rfl, by kernel_rfl, by kernel_rfl, by kernel_rfl, by kernel_rfl, by kernel_rfl, by kernel_rfl, by kernel_rfl, by kernel_rfl, by kernel_rfl, by kernel_rfl, by kernel_rfl, by kernel_rfl, by kernel_rfl, by kernel_rfl, by kernel_rfl⟩
theorem tys9 : isAggT Go.Proofs.Tryz.prog 155 = false ∧
  strT Go.Proofs.Tryz.prog 155 = false ∧
  bytesT Go.Proofs.Tryz.prog 155 = false ∧
  refT Go.Proofs.Tryz.prog 155 = false ∧
  (Go.Proofs.Tryz.prog.underlying 155).isSome = true ∧
  intT Go.Proofs.Tryz.prog 155 = none ∧
  kindT Go.Proofs.Tryz.prog 155 = 4 ∧
  (zeroT Go.Proofs.Tryz.prog 155).isSome = true ∧
  zcells Go.Proofs.Tryz.prog 155 = [.pointer none] ∧
  ((Go.Proofs.Tryz.prog.info? 155).map (·.bytes)).getD 1000 = 8 ∧
  szT Go.Proofs.Tryz.prog 156 = some 1 ∧
  isAggT Go.Proofs.Tryz.prog 156 = false ∧
  strT Go.Proofs.Tryz.prog 156 = false ∧
  bytesT Go.Proofs.Tryz.prog 156 = false ∧
  refT Go.Proofs.Tryz.prog 156 = false ∧
  (Go.Proofs.Tryz.prog.underlying 156).isSome = true ∧
  intT Go.Proofs.Tryz.prog 156 = none ∧
  kindT Go.Proofs.Tryz.prog 156 = 0 ∧
  (zeroT Go.Proofs.Tryz.prog 156).isSome = true ∧
  zcells Go.Proofs.Tryz.prog 156 = [.pointer none] ∧
  ((Go.Proofs.Tryz.prog.info? 156).map (·.bytes)).getD 1000 = 8 :=
  ⟨by kernel_rfl, by kernel_rfl, by kernel_rfl, by kernel_rfl, by kernel_rfl, by kernel_rfl, by kernel_rfl, by kernel_rfl, by kernel_rfl, by kernel_rfl, by kernel_rfl, by kernel_rfl, by kernel_rfl, by kernel_rfl, by kernel_rfl, by kernel_rfl, by kernel_rfl, by kernel_rfl, by kernel_rfl, by kernel_rfl, by kernel_rfl⟩
def tys := And.intro (And.intro (And.intro tys0 tys1) (And.intro tys2 (And.intro tys3 tys4))) (And.intro (And.intro tys5 tys6) (And.intro tys7 (And.intro tys8 tys9)))
end Go.Proofs.YtobnbajakenbeaaGreat

/- Contracts: the small tests. -/
set_option linter.all false
set_option maxRecDepth 10000
namespace Go.Proofs.YtobnbajakenbeaaGreat
open Go Go.Eng
theorem mixed : Go.Proofs.Tryz.prog.follows .mixedOrders = true := by kernel_rfl


theorem c_isUser (u : Int) : Gives Go.Proofs.Tryz.prog 114 [I u] (.bool (decide (0 ≤ u) && decide (u < 4))) := by
  refine gives_of_V mixed Go.Proofs.Tryz.call114 Go.Proofs.Tryz.func114 rfl (by rw [Go.Proofs.Tryz.ntmps114]; simp) ?_
  simp (maxSteps := 2000000) (contextual := true) only [↓ctl, evl, val, valP, own, tys, Tryz.ntmps114, Tryz.results114, ↓V_convert, ↓V_bytes, stdl, cond_true, cond_false, Nat.reduceEqDiff, Nat.reduceAdd, Nat.reduceMul, Nat.reduceSub, Nat.reduceLT, Int.reduceEq, Int.reduceLT, Int.reduceLE, Int.reduceNeg, Nat.reduceLeDiff, if_true, if_false, ↓reduceIte, forall_const, implies_true, reduceCtorEq, forall_eq_or_imp, forall_eq, ne_eq]
theorem c_BlocksNeeded (u : Int) (hu : In64 u) : Gives Go.Proofs.Tryz.prog 105 [I u] (.int .i64 (if u ≤ 0 then 0 else (u - 1) / 32 + 1)) := by
  refine gives_of_V mixed Go.Proofs.Tryz.call105 Go.Proofs.Tryz.func105 rfl (by rw [Go.Proofs.Tryz.ntmps105]; simp) ?_
  simp (maxSteps := 2000000) (contextual := true) only [↓ctl, evl, val, valP, own, tys, Tryz.ntmps105, Tryz.results105, ↓V_convert, ↓V_bytes, stdl, cond_true, cond_false, Nat.reduceEqDiff, Nat.reduceAdd, Nat.reduceMul, Nat.reduceSub, Nat.reduceLT, Int.reduceEq, Int.reduceLT, Int.reduceLE, Int.reduceNeg, Nat.reduceLeDiff, if_true, if_false, ↓reduceIte, forall_const, implies_true, reduceCtorEq, forall_eq_or_imp, forall_eq, ne_eq]
  intro h
  simp (disch := omega) only [wrap_id, quoV_pos]
end Go.Proofs.YtobnbajakenbeaaGreat


/- Contracts: zeroes, membership. -/
set_option linter.all false
set_option maxRecDepth 10000
namespace Go.Proofs.YtobnbajakenbeaaGreat
open Go Go.Eng

def zeroes (s : List UInt8) : Bool := s.all (·.toNat == 0)
theorem c_IsZeroes (s : List UInt8) (hs : s.length ≤ 1099511627776) : Gives Go.Proofs.Tryz.prog 96 [Sx s] (.bool (zeroes s)) := by
  refine gives_of_V mixed Go.Proofs.Tryz.call96 Go.Proofs.Tryz.func96 rfl (by rw [Go.Proofs.Tryz.ntmps96]; simp) ?_
  simp (maxSteps := 2000000) (contextual := true) only [↓ctl, evl, val, valP, own, tys, Tryz.ntmps96, Tryz.results96, ↓V_convert, ↓V_bytes, stdl, cond_true, cond_false, Nat.reduceEqDiff, Nat.reduceAdd, Nat.reduceMul, Nat.reduceSub, Nat.reduceLT, Int.reduceEq, Int.reduceLT, Int.reduceLE, Int.reduceNeg, Nat.reduceLeDiff, if_true, if_false, ↓reduceIte, forall_const, implies_true, reduceCtorEq, forall_eq_or_imp, forall_eq, ne_eq]
  refine V_loopI mixed (ι := {i : Nat // i ≤ s.length ∧ zeroes s = (s.drop i).all (·.toNat == 0)}) (fun i => ⟨[(0, true, Sx s), (5, true, I s.length), (6, true, I i.1)], [], 0, 14⟩) (fun i => s.length - i.1) ⟨0, by simp [zeroes]⟩ ?_ ?_ ?_
  · refine weakI ?_
    simp (maxSteps := 2000000) (contextual := true) only [↓ctl, evl, val, valP, own, tys, Tryz.ntmps96, Tryz.results96, ↓V_convert, ↓V_bytes, stdl, cond_true, cond_false, Nat.reduceEqDiff, Nat.reduceAdd, Nat.reduceMul, Nat.reduceSub, Nat.reduceLT, Int.reduceEq, Int.reduceLT, Int.reduceLE, Int.reduceNeg, Nat.reduceLeDiff, if_true, if_false, ↓reduceIte, forall_const, implies_true, reduceCtorEq, forall_eq_or_imp, forall_eq, ne_eq]
    rfl
  · trivial
  · rintro ⟨i, hi, ha⟩
    simp (maxSteps := 2000000) (contextual := true) only [↓ctl, evl, val, valP, own, tys, Tryz.ntmps96, Tryz.results96, ↓V_convert, ↓V_bytes, stdl, cond_true, cond_false, Nat.reduceEqDiff, Nat.reduceAdd, Nat.reduceMul, Nat.reduceSub, Nat.reduceLT, Int.reduceEq, Int.reduceLT, Int.reduceLE, Int.reduceNeg, Nat.reduceLeDiff, if_true, if_false, ↓reduceIte, forall_const, implies_true, reduceCtorEq, forall_eq_or_imp, forall_eq, ne_eq]
    refine ⟨fun hlt => ⟨fun h0 => ?_, fun h0 => V_backI ⟨i + 1, by omega, ?_⟩ (by show _ - (i + 1) < _; omega) (weakI ?_)⟩, fun hlt => ?_⟩
    · rw [ha, all_drop 0 hlt]; grind
    · rw [ha, all_drop 0 hlt]; grind
    · simp (maxSteps := 2000000) (contextual := true) only [↓ctl, evl, val, valP, own, tys, Tryz.ntmps96, Tryz.results96, ↓V_convert, ↓V_bytes, stdl, cond_true, cond_false, Nat.reduceEqDiff, Nat.reduceAdd, Nat.reduceMul, Nat.reduceSub, Nat.reduceLT, Int.reduceEq, Int.reduceLT, Int.reduceLE, Int.reduceNeg, Nat.reduceLeDiff, if_true, if_false, ↓reduceIte, forall_const, implies_true, reduceCtorEq, forall_eq_or_imp, forall_eq, ne_eq]
      rw [wrap_id (by omega) (by omega)]
      rfl
    · rw [ha, drop_end _ _ hlt]; rfl
theorem d_IsZeroes (s : List UInt8) (hs : s.length ≤ 1099511627776) : Gives Go.Proofs.Tryz.prog 52 [Sx s] (.bool (zeroes s)) := by
  refine gives_of_V mixed Go.Proofs.Tryz.call52 Go.Proofs.Tryz.func52 rfl (by rw [Go.Proofs.Tryz.ntmps52]; simp) ?_
  simp (maxSteps := 2000000) (contextual := true) only [↓ctl, evl, val, valP, own, tys, Tryz.ntmps52, Tryz.results52, ↓V_convert, ↓V_bytes, stdl, cond_true, cond_false, Nat.reduceEqDiff, Nat.reduceAdd, Nat.reduceMul, Nat.reduceSub, Nat.reduceLT, Int.reduceEq, Int.reduceLT, Int.reduceLE, Int.reduceNeg, Nat.reduceLeDiff, if_true, if_false, ↓reduceIte, forall_const, implies_true, reduceCtorEq, forall_eq_or_imp, forall_eq, ne_eq]
  refine V_loopI mixed (ι := {i : Nat // i ≤ s.length ∧ zeroes s = (s.drop i).all (·.toNat == 0)}) (fun i => ⟨[(0, true, Sx s), (3, true, I i.1)], [], 0, 14⟩) (fun i => s.length - i.1) ⟨0, by simp [zeroes]⟩ ?_ ?_ ?_
  · refine weakI ?_
    simp (maxSteps := 2000000) (contextual := true) only [↓ctl, evl, val, valP, own, tys, Tryz.ntmps52, Tryz.results52, ↓V_convert, ↓V_bytes, stdl, cond_true, cond_false, Nat.reduceEqDiff, Nat.reduceAdd, Nat.reduceMul, Nat.reduceSub, Nat.reduceLT, Int.reduceEq, Int.reduceLT, Int.reduceLE, Int.reduceNeg, Nat.reduceLeDiff, if_true, if_false, ↓reduceIte, forall_const, implies_true, reduceCtorEq, forall_eq_or_imp, forall_eq, ne_eq]
    rfl
  · trivial
  · rintro ⟨i, hi, ha⟩
    simp (maxSteps := 2000000) (contextual := true) only [↓ctl, evl, val, valP, own, tys, Tryz.ntmps52, Tryz.results52, ↓V_convert, ↓V_bytes, stdl, cond_true, cond_false, Nat.reduceEqDiff, Nat.reduceAdd, Nat.reduceMul, Nat.reduceSub, Nat.reduceLT, Int.reduceEq, Int.reduceLT, Int.reduceLE, Int.reduceNeg, Nat.reduceLeDiff, if_true, if_false, ↓reduceIte, forall_const, implies_true, reduceCtorEq, forall_eq_or_imp, forall_eq, ne_eq]
    refine ⟨fun hlt => ⟨fun h0 => ?_, fun h0 => V_backI ⟨i + 1, by omega, ?_⟩ (by show _ - (i + 1) < _; omega) (weakI ?_)⟩, fun hlt => ?_⟩
    · rw [ha, all_drop 0 hlt]; grind
    · rw [ha, all_drop 0 hlt]; grind
    · simp (maxSteps := 2000000) (contextual := true) only [↓ctl, evl, val, valP, own, tys, Tryz.ntmps52, Tryz.results52, ↓V_convert, ↓V_bytes, stdl, cond_true, cond_false, Nat.reduceEqDiff, Nat.reduceAdd, Nat.reduceMul, Nat.reduceSub, Nat.reduceLT, Int.reduceEq, Int.reduceLT, Int.reduceLE, Int.reduceNeg, Nat.reduceLeDiff, if_true, if_false, ↓reduceIte, forall_const, implies_true, reduceCtorEq, forall_eq_or_imp, forall_eq, ne_eq]
      rw [wrap_id (by omega) (by omega)]
      rfl
    · rw [ha, drop_end _ _ hlt]; rfl
theorem d_l02Has (l : List Int) (n : Int) (hs : l.length ≤ 1099511627776) : Gives Go.Proofs.Tryz.prog 87 [.rd 1 (l.map intRow), I n] (.bool (l.any (· == n))) := by
  refine gives_of_V mixed Go.Proofs.Tryz.call87 Go.Proofs.Tryz.func87 rfl (by rw [Go.Proofs.Tryz.ntmps87]; simp) ?_
  simp (maxSteps := 2000000) (contextual := true) only [↓ctl, evl, val, valP, own, tys, Tryz.ntmps87, Tryz.results87, ↓V_convert, ↓V_bytes, stdl, cond_true, cond_false, Nat.reduceEqDiff, Nat.reduceAdd, Nat.reduceMul, Nat.reduceSub, Nat.reduceLT, Int.reduceEq, Int.reduceLT, Int.reduceLE, Int.reduceNeg, Nat.reduceLeDiff, if_true, if_false, ↓reduceIte, forall_const, implies_true, reduceCtorEq, forall_eq_or_imp, forall_eq, ne_eq]
  refine V_loopI mixed (ι := {i : Nat // i ≤ l.length ∧ (l.any (· == n)) = (l.drop i).any (· == n)}) (fun i => ⟨[(1, true, I n), (7, true, .rd 1 (l.map intRow)), (8, true, I l.length), (9, true, I i.1)], [], 0, 17⟩) (fun i => l.length - i.1) ⟨0, by simp⟩ ?_ ?_ ?_
  · refine weakI ?_
    simp (maxSteps := 2000000) (contextual := true) only [↓ctl, evl, val, valP, own, tys, Tryz.ntmps87, Tryz.results87, ↓V_convert, ↓V_bytes, stdl, cond_true, cond_false, Nat.reduceEqDiff, Nat.reduceAdd, Nat.reduceMul, Nat.reduceSub, Nat.reduceLT, Int.reduceEq, Int.reduceLT, Int.reduceLE, Int.reduceNeg, Nat.reduceLeDiff, if_true, if_false, ↓reduceIte, forall_const, implies_true, reduceCtorEq, forall_eq_or_imp, forall_eq, ne_eq]
    rfl
  · trivial
  · rintro ⟨i, hi, ha⟩
    simp (maxSteps := 2000000) (contextual := true) only [↓ctl, evl, val, valP, own, tys, Tryz.ntmps87, Tryz.results87, ↓V_convert, ↓V_bytes, stdl, cond_true, cond_false, Nat.reduceEqDiff, Nat.reduceAdd, Nat.reduceMul, Nat.reduceSub, Nat.reduceLT, Int.reduceEq, Int.reduceLT, Int.reduceLE, Int.reduceNeg, Nat.reduceLeDiff, if_true, if_false, ↓reduceIte, forall_const, implies_true, reduceCtorEq, forall_eq_or_imp, forall_eq, ne_eq]
    refine ⟨fun hlt => ⟨fun h0 => ?_, fun h0 => V_backI ⟨i + 1, by omega, ?_⟩ (by show _ - (i + 1) < _; omega) (weakI ?_)⟩, fun hlt => ?_⟩
    · rw [ha, any_drop default hlt]; grind
    · rw [ha, any_drop default hlt]; grind
    · simp (maxSteps := 2000000) (contextual := true) only [↓ctl, evl, val, valP, own, tys, Tryz.ntmps87, Tryz.results87, ↓V_convert, ↓V_bytes, stdl, cond_true, cond_false, Nat.reduceEqDiff, Nat.reduceAdd, Nat.reduceMul, Nat.reduceSub, Nat.reduceLT, Int.reduceEq, Int.reduceLT, Int.reduceLE, Int.reduceNeg, Nat.reduceLeDiff, if_true, if_false, ↓reduceIte, forall_const, implies_true, reduceCtorEq, forall_eq_or_imp, forall_eq, ne_eq]
      rw [wrap_id (by omega) (by omega)]
      rfl
    · rw [ha, drop_end _ _ hlt]; rfl
end Go.Proofs.YtobnbajakenbeaaGreat


/- Contracts: ranges, owners, membership, sameness. -/
set_option linter.all false
set_option maxRecDepth 10000
namespace Go.Proofs.YtobnbajakenbeaaGreat
open Go Go.Eng

def inR (n lo hi : Int) : Bool := decide (lo ≤ n) && decide (n ≤ hi)
theorem d_l01In (n lo hi : Int) : Gives Go.Proofs.Tryz.prog 49 [I n, I lo, I hi] (.bool (inR n lo hi)) := by
  refine gives_of_V mixed Go.Proofs.Tryz.call49 Go.Proofs.Tryz.func49 rfl (by rw [Go.Proofs.Tryz.ntmps49]; simp) ?_
  simp (maxSteps := 2000000) (contextual := true) only [↓ctl, evl, val, valP, own, tys, Tryz.ntmps49, Tryz.results49, ↓V_convert, ↓V_bytes, stdl, cond_true, cond_false, Nat.reduceEqDiff, Nat.reduceAdd, Nat.reduceMul, Nat.reduceSub, Nat.reduceLT, Int.reduceEq, Int.reduceLT, Int.reduceLE, Int.reduceNeg, Nat.reduceLeDiff, if_true, if_false, ↓reduceIte, forall_const, implies_true, reduceCtorEq, forall_eq_or_imp, forall_eq, ne_eq, inR, ge_iff_le]
def isUser (u : Int) : Bool := inR u 0 3
theorem e_isUser (u : Int) : Gives Go.Proofs.Tryz.prog 114 [I u] (.bool (isUser u)) := by
  have := c_isUser u
  have e : isUser u = (decide (0 ≤ u) && decide (u < 4)) := by simp [isUser, inR]; grind
  rw [e]; exact this
theorem d_l06User (u : Int) : Gives Go.Proofs.Tryz.prog 85 [I u] (.bool (isUser u)) := by
  refine gives_of_V mixed Go.Proofs.Tryz.call85 Go.Proofs.Tryz.func85 rfl (by rw [Go.Proofs.Tryz.ntmps85]; simp) ?_
  simp (maxSteps := 2000000) (contextual := true) only [↓ctl, evl, val, valP, own, tys, Tryz.ntmps85, Tryz.results85, ↓V_convert, ↓V_bytes, stdl, cond_true, cond_false, Nat.reduceEqDiff, Nat.reduceAdd, Nat.reduceMul, Nat.reduceSub, Nat.reduceLT, Int.reduceEq, Int.reduceLT, Int.reduceLE, Int.reduceNeg, Nat.reduceLeDiff, if_true, if_false, ↓reduceIte, forall_const, implies_true, reduceCtorEq, forall_eq_or_imp, forall_eq, ne_eq]
  refine V_callF mixed (cap := []) (fun _ => d_l01In u 0 3) (by simp (maxSteps := 2000000) (contextual := true) only [↓ctl, evl, val, valP, own, tys, Tryz.ntmps85, Tryz.results85, ↓V_convert, ↓V_bytes, stdl, cond_true, cond_false, Nat.reduceEqDiff, Nat.reduceAdd, Nat.reduceMul, Nat.reduceSub, Nat.reduceLT, Int.reduceEq, Int.reduceLT, Int.reduceLE, Int.reduceNeg, Nat.reduceLeDiff, if_true, if_false, ↓reduceIte, forall_const, implies_true, reduceCtorEq, forall_eq_or_imp, forall_eq, ne_eq]) (by simp (maxSteps := 2000000) (contextual := true) only [↓ctl, evl, val, valP, own, tys, Tryz.ntmps85, Tryz.results85, ↓V_convert, ↓V_bytes, stdl, cond_true, cond_false, Nat.reduceEqDiff, Nat.reduceAdd, Nat.reduceMul, Nat.reduceSub, Nat.reduceLT, Int.reduceEq, Int.reduceLT, Int.reduceLE, Int.reduceNeg, Nat.reduceLeDiff, if_true, if_false, ↓reduceIte, forall_const, implies_true, reduceCtorEq, forall_eq_or_imp, forall_eq, ne_eq]) (by simp (maxSteps := 2000000) (contextual := true) only [↓ctl, evl, val, valP, own, tys, Tryz.ntmps85, Tryz.results85, ↓V_convert, ↓V_bytes, stdl, cond_true, cond_false, Nat.reduceEqDiff, Nat.reduceAdd, Nat.reduceMul, Nat.reduceSub, Nat.reduceLT, Int.reduceEq, Int.reduceLT, Int.reduceLE, Int.reduceNeg, Nat.reduceLeDiff, if_true, if_false, ↓reduceIte, forall_const, implies_true, reduceCtorEq, forall_eq_or_imp, forall_eq, ne_eq]) trivial ?_
  simp (maxSteps := 2000000) (contextual := true) only [↓ctl, evl, val, valP, own, tys, Tryz.ntmps85, Tryz.results85, ↓V_convert, ↓V_bytes, stdl, cond_true, cond_false, Nat.reduceEqDiff, Nat.reduceAdd, Nat.reduceMul, Nat.reduceSub, Nat.reduceLT, Int.reduceEq, Int.reduceLT, Int.reduceLE, Int.reduceNeg, Nat.reduceLeDiff, if_true, if_false, ↓reduceIte, forall_const, implies_true, reduceCtorEq, forall_eq_or_imp, forall_eq, ne_eq]
  rfl
def isMode (u : Int) : Bool := inR u 0 2047
theorem d_l06Mode (u : Int) : Gives Go.Proofs.Tryz.prog 84 [I u] (.bool (isMode u)) := by
  refine gives_of_V mixed Go.Proofs.Tryz.call84 Go.Proofs.Tryz.func84 rfl (by rw [Go.Proofs.Tryz.ntmps84]; simp) ?_
  simp (maxSteps := 2000000) (contextual := true) only [↓ctl, evl, val, valP, own, tys, Tryz.ntmps84, Tryz.results84, ↓V_convert, ↓V_bytes, stdl, cond_true, cond_false, Nat.reduceEqDiff, Nat.reduceAdd, Nat.reduceMul, Nat.reduceSub, Nat.reduceLT, Int.reduceEq, Int.reduceLT, Int.reduceLE, Int.reduceNeg, Nat.reduceLeDiff, if_true, if_false, ↓reduceIte, forall_const, implies_true, reduceCtorEq, forall_eq_or_imp, forall_eq, ne_eq]
  refine V_callF mixed (cap := []) (fun _ => d_l01In u 0 2047) (by simp (maxSteps := 2000000) (contextual := true) only [↓ctl, evl, val, valP, own, tys, Tryz.ntmps84, Tryz.results84, ↓V_convert, ↓V_bytes, stdl, cond_true, cond_false, Nat.reduceEqDiff, Nat.reduceAdd, Nat.reduceMul, Nat.reduceSub, Nat.reduceLT, Int.reduceEq, Int.reduceLT, Int.reduceLE, Int.reduceNeg, Nat.reduceLeDiff, if_true, if_false, ↓reduceIte, forall_const, implies_true, reduceCtorEq, forall_eq_or_imp, forall_eq, ne_eq]) (by simp (maxSteps := 2000000) (contextual := true) only [↓ctl, evl, val, valP, own, tys, Tryz.ntmps84, Tryz.results84, ↓V_convert, ↓V_bytes, stdl, cond_true, cond_false, Nat.reduceEqDiff, Nat.reduceAdd, Nat.reduceMul, Nat.reduceSub, Nat.reduceLT, Int.reduceEq, Int.reduceLT, Int.reduceLE, Int.reduceNeg, Nat.reduceLeDiff, if_true, if_false, ↓reduceIte, forall_const, implies_true, reduceCtorEq, forall_eq_or_imp, forall_eq, ne_eq]) (by simp (maxSteps := 2000000) (contextual := true) only [↓ctl, evl, val, valP, own, tys, Tryz.ntmps84, Tryz.results84, ↓V_convert, ↓V_bytes, stdl, cond_true, cond_false, Nat.reduceEqDiff, Nat.reduceAdd, Nat.reduceMul, Nat.reduceSub, Nat.reduceLT, Int.reduceEq, Int.reduceLT, Int.reduceLE, Int.reduceNeg, Nat.reduceLeDiff, if_true, if_false, ↓reduceIte, forall_const, implies_true, reduceCtorEq, forall_eq_or_imp, forall_eq, ne_eq]) trivial ?_
  simp (maxSteps := 2000000) (contextual := true) only [↓ctl, evl, val, valP, own, tys, Tryz.ntmps84, Tryz.results84, ↓V_convert, ↓V_bytes, stdl, cond_true, cond_false, Nat.reduceEqDiff, Nat.reduceAdd, Nat.reduceMul, Nat.reduceSub, Nat.reduceLT, Int.reduceEq, Int.reduceLT, Int.reduceLE, Int.reduceNeg, Nat.reduceLeDiff, if_true, if_false, ↓reduceIte, forall_const, implies_true, reduceCtorEq, forall_eq_or_imp, forall_eq, ne_eq]
  rfl
theorem c_isMode (u : Int) : Gives Go.Proofs.Tryz.prog 113 [I u] (.bool (isMode u)) := by
  refine gives_of_V mixed Go.Proofs.Tryz.call113 Go.Proofs.Tryz.func113 rfl (by rw [Go.Proofs.Tryz.ntmps113]; simp) ?_
  simp (maxSteps := 2000000) (contextual := true) only [↓ctl, evl, val, valP, own, tys, Tryz.ntmps113, Tryz.results113, ↓V_convert, ↓V_bytes, stdl, cond_true, cond_false, Nat.reduceEqDiff, Nat.reduceAdd, Nat.reduceMul, Nat.reduceSub, Nat.reduceLT, Int.reduceEq, Int.reduceLT, Int.reduceLE, Int.reduceNeg, Nat.reduceLeDiff, if_true, if_false, ↓reduceIte, forall_const, implies_true, reduceCtorEq, forall_eq_or_imp, forall_eq, ne_eq, isMode, inR, ge_iff_le]
def owner (b : Int) : Int := if inR b 0 55 then b / 14 else -1
theorem d_BlockOwner (b : Int) : Gives Go.Proofs.Tryz.prog 89 [I b] (.int .i64 (owner b)) := by
  refine gives_of_V mixed Go.Proofs.Tryz.call89 Go.Proofs.Tryz.func89 rfl (by rw [Go.Proofs.Tryz.ntmps89]; simp) ?_
  simp (maxSteps := 2000000) (contextual := true) only [↓ctl, evl, val, valP, own, tys, Tryz.ntmps89, Tryz.results89, ↓V_convert, ↓V_bytes, stdl, cond_true, cond_false, Nat.reduceEqDiff, Nat.reduceAdd, Nat.reduceMul, Nat.reduceSub, Nat.reduceLT, Int.reduceEq, Int.reduceLT, Int.reduceLE, Int.reduceNeg, Nat.reduceLeDiff, if_true, if_false, ↓reduceIte, forall_const, implies_true, reduceCtorEq, forall_eq_or_imp, forall_eq, ne_eq]
  refine V_callF mixed (cap := []) (fun _ => d_l01In b 0 55) (by simp (maxSteps := 2000000) (contextual := true) only [↓ctl, evl, val, valP, own, tys, Tryz.ntmps89, Tryz.results89, ↓V_convert, ↓V_bytes, stdl, cond_true, cond_false, Nat.reduceEqDiff, Nat.reduceAdd, Nat.reduceMul, Nat.reduceSub, Nat.reduceLT, Int.reduceEq, Int.reduceLT, Int.reduceLE, Int.reduceNeg, Nat.reduceLeDiff, if_true, if_false, ↓reduceIte, forall_const, implies_true, reduceCtorEq, forall_eq_or_imp, forall_eq, ne_eq]) (by simp (maxSteps := 2000000) (contextual := true) only [↓ctl, evl, val, valP, own, tys, Tryz.ntmps89, Tryz.results89, ↓V_convert, ↓V_bytes, stdl, cond_true, cond_false, Nat.reduceEqDiff, Nat.reduceAdd, Nat.reduceMul, Nat.reduceSub, Nat.reduceLT, Int.reduceEq, Int.reduceLT, Int.reduceLE, Int.reduceNeg, Nat.reduceLeDiff, if_true, if_false, ↓reduceIte, forall_const, implies_true, reduceCtorEq, forall_eq_or_imp, forall_eq, ne_eq]) (by simp (maxSteps := 2000000) (contextual := true) only [↓ctl, evl, val, valP, own, tys, Tryz.ntmps89, Tryz.results89, ↓V_convert, ↓V_bytes, stdl, cond_true, cond_false, Nat.reduceEqDiff, Nat.reduceAdd, Nat.reduceMul, Nat.reduceSub, Nat.reduceLT, Int.reduceEq, Int.reduceLT, Int.reduceLE, Int.reduceNeg, Nat.reduceLeDiff, if_true, if_false, ↓reduceIte, forall_const, implies_true, reduceCtorEq, forall_eq_or_imp, forall_eq, ne_eq]) trivial ?_
  simp (maxSteps := 2000000) (contextual := true) only [↓ctl, evl, val, valP, own, tys, Tryz.ntmps89, Tryz.results89, ↓V_convert, ↓V_bytes, stdl, cond_true, cond_false, Nat.reduceEqDiff, Nat.reduceAdd, Nat.reduceMul, Nat.reduceSub, Nat.reduceLT, Int.reduceEq, Int.reduceLT, Int.reduceLE, Int.reduceNeg, Nat.reduceLeDiff, if_true, if_false, ↓reduceIte, forall_const, implies_true, reduceCtorEq, forall_eq_or_imp, forall_eq, ne_eq]
  refine ⟨fun h => by simp [owner, h], fun h => ?_⟩
  have h' := h
  simp only [inR, Bool.and_eq_true, decide_eq_true_eq] at h'
  simp only [owner, h, if_true]
  exact quoV_pos (by omega) (by omega) (by omega)
theorem c_BlockOwner (b : Int) : Gives Go.Proofs.Tryz.prog 95 [I b] (.int .i64 (owner b)) := by
  refine gives_of_V mixed Go.Proofs.Tryz.call95 Go.Proofs.Tryz.func95 rfl (by rw [Go.Proofs.Tryz.ntmps95]; simp) ?_
  simp (maxSteps := 2000000) (contextual := true) only [↓ctl, evl, val, valP, own, tys, Tryz.ntmps95, Tryz.results95, ↓V_convert, ↓V_bytes, stdl, cond_true, cond_false, Nat.reduceEqDiff, Nat.reduceAdd, Nat.reduceMul, Nat.reduceSub, Nat.reduceLT, Int.reduceEq, Int.reduceLT, Int.reduceLE, Int.reduceNeg, Nat.reduceLeDiff, if_true, if_false, ↓reduceIte, forall_const, implies_true, reduceCtorEq, forall_eq_or_imp, forall_eq, ne_eq]
  refine ⟨fun h => ?_, fun h => ?_⟩
  · have e : inR b 0 55 = false := by unfold inR; grind
    simp [owner, e]
  · have e : inR b 0 55 = true := by unfold inR; grind
    simp only [owner, e, if_true]
    exact quoV_pos (by omega) (by omega) (by omega)
theorem d_BlocksNeeded (u : Int) (hu : In64 u) : Gives Go.Proofs.Tryz.prog 86 [I u] (.int .i64 (if u ≤ 0 then 0 else (u - 1) / 32 + 1)) := by
  refine gives_of_V mixed Go.Proofs.Tryz.call86 Go.Proofs.Tryz.func86 rfl (by rw [Go.Proofs.Tryz.ntmps86]; simp) ?_
  simp (maxSteps := 2000000) (contextual := true) only [↓ctl, evl, val, valP, own, tys, Tryz.ntmps86, Tryz.results86, ↓V_convert, ↓V_bytes, stdl, cond_true, cond_false, Nat.reduceEqDiff, Nat.reduceAdd, Nat.reduceMul, Nat.reduceSub, Nat.reduceLT, Int.reduceEq, Int.reduceLT, Int.reduceLE, Int.reduceNeg, Nat.reduceLeDiff, if_true, if_false, ↓reduceIte, forall_const, implies_true, reduceCtorEq, forall_eq_or_imp, forall_eq, ne_eq]
  intro h
  simp (disch := omega) only [wrap_id, quoV_pos]
def idxFrom (n : Int) : Nat → List Int → Int
  | _, [] => -1
  | i, x :: xs => if n = x then i else idxFrom n (i + 1) xs
theorem idxFrom_ge (n : Int) : ∀ (l : List Int) (i : Nat), decide (idxFrom n i l ≥ 0) = l.any (· == n)
  | [], i => by simp [idxFrom]
  | x :: xs, i => by
    simp only [idxFrom, List.any_cons]
    split
    · rename_i h; subst h; simp
    · rename_i h
      rw [idxFrom_ge n xs (i + 1)]
      have : (x == n) = false := by simp only [beq_eq_false_iff_ne]; exact fun e => h e.symm
      rw [this, Bool.false_or]
theorem c_Index (l : List Int) (n : Int) (hs : l.length ≤ 1099511627776) : Gives Go.Proofs.Tryz.prog 128 [.rd 1 (l.map intRow), I n] (.int .i64 (idxFrom n 0 l)) := by
  refine gives_of_V mixed Go.Proofs.Tryz.call128 Go.Proofs.Tryz.func128 rfl (by rw [Go.Proofs.Tryz.ntmps128]; simp) ?_
  simp (maxSteps := 2000000) (contextual := true) only [↓ctl, evl, val, valP, own, tys, Tryz.ntmps128, Tryz.results128, ↓V_convert, ↓V_bytes, stdl, cond_true, cond_false, Nat.reduceEqDiff, Nat.reduceAdd, Nat.reduceMul, Nat.reduceSub, Nat.reduceLT, Int.reduceEq, Int.reduceLT, Int.reduceLE, Int.reduceNeg, Nat.reduceLeDiff, if_true, if_false, ↓reduceIte, forall_const, implies_true, reduceCtorEq, forall_eq_or_imp, forall_eq, ne_eq]
  refine V_loopI mixed (ι := {i : Nat // i ≤ l.length ∧ idxFrom n 0 l = idxFrom n i (l.drop i)}) (fun i => ⟨[(0, true, .rd 1 (l.map intRow)), (1, true, I n), (7, true, I l.length), (8, true, I i.1)], [], 0, 19⟩) (fun i => l.length - i.1)  ⟨0, by simp⟩ ?_ ?_ ?_
  · refine weakI ?_
    simp (maxSteps := 2000000) (contextual := true) only [↓ctl, evl, val, valP, own, tys, Tryz.ntmps128, Tryz.results128, ↓V_convert, ↓V_bytes, stdl, cond_true, cond_false, Nat.reduceEqDiff, Nat.reduceAdd, Nat.reduceMul, Nat.reduceSub, Nat.reduceLT, Int.reduceEq, Int.reduceLT, Int.reduceLE, Int.reduceNeg, Nat.reduceLeDiff, if_true, if_false, ↓reduceIte, forall_const, implies_true, reduceCtorEq, forall_eq_or_imp, forall_eq, ne_eq]
    rfl
  · trivial
  · rintro ⟨i, hi, ha⟩
    simp (maxSteps := 2000000) (contextual := true) only [↓ctl, evl, val, valP, own, tys, Tryz.ntmps128, Tryz.results128, ↓V_convert, ↓V_bytes, stdl, cond_true, cond_false, Nat.reduceEqDiff, Nat.reduceAdd, Nat.reduceMul, Nat.reduceSub, Nat.reduceLT, Int.reduceEq, Int.reduceLT, Int.reduceLE, Int.reduceNeg, Nat.reduceLeDiff, if_true, if_false, ↓reduceIte, forall_const, implies_true, reduceCtorEq, forall_eq_or_imp, forall_eq, ne_eq]
    refine ⟨fun hlt => ⟨fun h0 => ?_, fun h0 => V_backI ⟨i + 1, by omega, ?_⟩ (by show _ - (i + 1) < _; omega) (weakI ?_)⟩, fun hlt => ?_⟩
    · rw [← h0, ha, drop_getD default hlt, idxFrom, if_pos h0]
    · rw [ha, drop_getD default hlt]; rw [idxFrom, if_neg h0]
    · simp (maxSteps := 2000000) (contextual := true) only [↓ctl, evl, val, valP, own, tys, Tryz.ntmps128, Tryz.results128, ↓V_convert, ↓V_bytes, stdl, cond_true, cond_false, Nat.reduceEqDiff, Nat.reduceAdd, Nat.reduceMul, Nat.reduceSub, Nat.reduceLT, Int.reduceEq, Int.reduceLT, Int.reduceLE, Int.reduceNeg, Nat.reduceLeDiff, if_true, if_false, ↓reduceIte, forall_const, implies_true, reduceCtorEq, forall_eq_or_imp, forall_eq, ne_eq]
      rw [wrap_id (by omega) (by omega)]
      rfl
    · rw [ha, drop_end _ _ hlt]; rfl
theorem c_Contains (l : List Int) (n : Int) (hs : l.length ≤ 1099511627776) : Gives Go.Proofs.Tryz.prog 116 [.rd 1 (l.map intRow), I n] (.bool (l.any (· == n))) := by
  refine gives_of_V mixed Go.Proofs.Tryz.call116 Go.Proofs.Tryz.func116 rfl (by rw [Go.Proofs.Tryz.ntmps116]; simp) ?_
  simp (maxSteps := 2000000) (contextual := true) only [↓ctl, evl, val, valP, own, tys, Tryz.ntmps116, Tryz.results116, ↓V_convert, ↓V_bytes, stdl, cond_true, cond_false, Nat.reduceEqDiff, Nat.reduceAdd, Nat.reduceMul, Nat.reduceSub, Nat.reduceLT, Int.reduceEq, Int.reduceLT, Int.reduceLE, Int.reduceNeg, Nat.reduceLeDiff, if_true, if_false, ↓reduceIte, forall_const, implies_true, reduceCtorEq, forall_eq_or_imp, forall_eq, ne_eq]
  refine V_callF mixed (cap := []) (fun _ => c_Index l n hs) (by simp (maxSteps := 2000000) (contextual := true) only [↓ctl, evl, val, valP, own, tys, Tryz.ntmps116, Tryz.results116, ↓V_convert, ↓V_bytes, stdl, cond_true, cond_false, Nat.reduceEqDiff, Nat.reduceAdd, Nat.reduceMul, Nat.reduceSub, Nat.reduceLT, Int.reduceEq, Int.reduceLT, Int.reduceLE, Int.reduceNeg, Nat.reduceLeDiff, if_true, if_false, ↓reduceIte, forall_const, implies_true, reduceCtorEq, forall_eq_or_imp, forall_eq, ne_eq]) (by simp (maxSteps := 2000000) (contextual := true) only [↓ctl, evl, val, valP, own, tys, Tryz.ntmps116, Tryz.results116, ↓V_convert, ↓V_bytes, stdl, cond_true, cond_false, Nat.reduceEqDiff, Nat.reduceAdd, Nat.reduceMul, Nat.reduceSub, Nat.reduceLT, Int.reduceEq, Int.reduceLT, Int.reduceLE, Int.reduceNeg, Nat.reduceLeDiff, if_true, if_false, ↓reduceIte, forall_const, implies_true, reduceCtorEq, forall_eq_or_imp, forall_eq, ne_eq]) (by simp (maxSteps := 2000000) (contextual := true) only [↓ctl, evl, val, valP, own, tys, Tryz.ntmps116, Tryz.results116, ↓V_convert, ↓V_bytes, stdl, cond_true, cond_false, Nat.reduceEqDiff, Nat.reduceAdd, Nat.reduceMul, Nat.reduceSub, Nat.reduceLT, Int.reduceEq, Int.reduceLT, Int.reduceLE, Int.reduceNeg, Nat.reduceLeDiff, if_true, if_false, ↓reduceIte, forall_const, implies_true, reduceCtorEq, forall_eq_or_imp, forall_eq, ne_eq]) trivial ?_
  simp (maxSteps := 2000000) (contextual := true) only [↓ctl, evl, val, valP, own, tys, Tryz.ntmps116, Tryz.results116, ↓V_convert, ↓V_bytes, stdl, cond_true, cond_false, Nat.reduceEqDiff, Nat.reduceAdd, Nat.reduceMul, Nat.reduceSub, Nat.reduceLT, Int.reduceEq, Int.reduceLT, Int.reduceLE, Int.reduceNeg, Nat.reduceLeDiff, if_true, if_false, ↓reduceIte, forall_const, implies_true, reduceCtorEq, forall_eq_or_imp, forall_eq, ne_eq]
  exact idxFrom_ge n l 0
theorem c_isNaN (a : Int) : Gives Go.Proofs.Tryz.prog 133 [I a] (.bool false) := by
  refine gives_of_V mixed Go.Proofs.Tryz.call133 Go.Proofs.Tryz.func133 rfl (by rw [Go.Proofs.Tryz.ntmps133]; simp) ?_
  simp (maxSteps := 2000000) (contextual := true) only [↓ctl, evl, val, valP, own, tys, Tryz.ntmps133, Tryz.results133, ↓V_convert, ↓V_bytes, stdl, cond_true, cond_false, Nat.reduceEqDiff, Nat.reduceAdd, Nat.reduceMul, Nat.reduceSub, Nat.reduceLT, Int.reduceEq, Int.reduceLT, Int.reduceLE, Int.reduceNeg, Nat.reduceLeDiff, if_true, if_false, ↓reduceIte, forall_const, implies_true, reduceCtorEq, forall_eq_or_imp, forall_eq, ne_eq]
theorem c_Compare (a b : Int) : Gives Go.Proofs.Tryz.prog 127 [I a, I b] (.int .i64 (if a < b then -1 else if a > b then 1 else 0)) := by
  refine gives_of_V mixed Go.Proofs.Tryz.call127 Go.Proofs.Tryz.func127 rfl (by rw [Go.Proofs.Tryz.ntmps127]; simp) ?_
  simp (maxSteps := 2000000) (contextual := true) only [↓ctl, evl, val, valP, own, tys, Tryz.ntmps127, Tryz.results127, ↓V_convert, ↓V_bytes, stdl, cond_true, cond_false, Nat.reduceEqDiff, Nat.reduceAdd, Nat.reduceMul, Nat.reduceSub, Nat.reduceLT, Int.reduceEq, Int.reduceLT, Int.reduceLE, Int.reduceNeg, Nat.reduceLeDiff, if_true, if_false, ↓reduceIte, forall_const, implies_true, reduceCtorEq, forall_eq_or_imp, forall_eq, ne_eq]
  refine V_callF mixed (cap := []) (fun _ => c_isNaN a) (by simp (maxSteps := 2000000) (contextual := true) only [↓ctl, evl, val, valP, own, tys, Tryz.ntmps127, Tryz.results127, ↓V_convert, ↓V_bytes, stdl, cond_true, cond_false, Nat.reduceEqDiff, Nat.reduceAdd, Nat.reduceMul, Nat.reduceSub, Nat.reduceLT, Int.reduceEq, Int.reduceLT, Int.reduceLE, Int.reduceNeg, Nat.reduceLeDiff, if_true, if_false, ↓reduceIte, forall_const, implies_true, reduceCtorEq, forall_eq_or_imp, forall_eq, ne_eq]) (by simp (maxSteps := 2000000) (contextual := true) only [↓ctl, evl, val, valP, own, tys, Tryz.ntmps127, Tryz.results127, ↓V_convert, ↓V_bytes, stdl, cond_true, cond_false, Nat.reduceEqDiff, Nat.reduceAdd, Nat.reduceMul, Nat.reduceSub, Nat.reduceLT, Int.reduceEq, Int.reduceLT, Int.reduceLE, Int.reduceNeg, Nat.reduceLeDiff, if_true, if_false, ↓reduceIte, forall_const, implies_true, reduceCtorEq, forall_eq_or_imp, forall_eq, ne_eq]) (by simp (maxSteps := 2000000) (contextual := true) only [↓ctl, evl, val, valP, own, tys, Tryz.ntmps127, Tryz.results127, ↓V_convert, ↓V_bytes, stdl, cond_true, cond_false, Nat.reduceEqDiff, Nat.reduceAdd, Nat.reduceMul, Nat.reduceSub, Nat.reduceLT, Int.reduceEq, Int.reduceLT, Int.reduceLE, Int.reduceNeg, Nat.reduceLeDiff, if_true, if_false, ↓reduceIte, forall_const, implies_true, reduceCtorEq, forall_eq_or_imp, forall_eq, ne_eq]) trivial ?_
  simp (maxSteps := 2000000) (contextual := true) only [↓ctl, evl, val, valP, own, tys, Tryz.ntmps127, Tryz.results127, ↓V_convert, ↓V_bytes, stdl, cond_true, cond_false, Nat.reduceEqDiff, Nat.reduceAdd, Nat.reduceMul, Nat.reduceSub, Nat.reduceLT, Int.reduceEq, Int.reduceLT, Int.reduceLE, Int.reduceNeg, Nat.reduceLeDiff, if_true, if_false, ↓reduceIte, forall_const, implies_true, reduceCtorEq, forall_eq_or_imp, forall_eq, ne_eq]
  refine V_callF mixed (cap := []) (fun _ => c_isNaN b) (by simp (maxSteps := 2000000) (contextual := true) only [↓ctl, evl, val, valP, own, tys, Tryz.ntmps127, Tryz.results127, ↓V_convert, ↓V_bytes, stdl, cond_true, cond_false, Nat.reduceEqDiff, Nat.reduceAdd, Nat.reduceMul, Nat.reduceSub, Nat.reduceLT, Int.reduceEq, Int.reduceLT, Int.reduceLE, Int.reduceNeg, Nat.reduceLeDiff, if_true, if_false, ↓reduceIte, forall_const, implies_true, reduceCtorEq, forall_eq_or_imp, forall_eq, ne_eq]) (by simp (maxSteps := 2000000) (contextual := true) only [↓ctl, evl, val, valP, own, tys, Tryz.ntmps127, Tryz.results127, ↓V_convert, ↓V_bytes, stdl, cond_true, cond_false, Nat.reduceEqDiff, Nat.reduceAdd, Nat.reduceMul, Nat.reduceSub, Nat.reduceLT, Int.reduceEq, Int.reduceLT, Int.reduceLE, Int.reduceNeg, Nat.reduceLeDiff, if_true, if_false, ↓reduceIte, forall_const, implies_true, reduceCtorEq, forall_eq_or_imp, forall_eq, ne_eq]) (by simp (maxSteps := 2000000) (contextual := true) only [↓ctl, evl, val, valP, own, tys, Tryz.ntmps127, Tryz.results127, ↓V_convert, ↓V_bytes, stdl, cond_true, cond_false, Nat.reduceEqDiff, Nat.reduceAdd, Nat.reduceMul, Nat.reduceSub, Nat.reduceLT, Int.reduceEq, Int.reduceLT, Int.reduceLE, Int.reduceNeg, Nat.reduceLeDiff, if_true, if_false, ↓reduceIte, forall_const, implies_true, reduceCtorEq, forall_eq_or_imp, forall_eq, ne_eq]) trivial ?_
  simp (maxSteps := 2000000) (contextual := true) only [↓ctl, evl, val, valP, own, tys, Tryz.ntmps127, Tryz.results127, ↓V_convert, ↓V_bytes, stdl, cond_true, cond_false, Nat.reduceEqDiff, Nat.reduceAdd, Nat.reduceMul, Nat.reduceSub, Nat.reduceLT, Int.reduceEq, Int.reduceLT, Int.reduceLE, Int.reduceNeg, Nat.reduceLeDiff, if_true, if_false, ↓reduceIte, forall_const, implies_true, reduceCtorEq, forall_eq_or_imp, forall_eq, ne_eq]
theorem eq_drop {α : Type} [BEq α] (d : α) {a b : List α} {i : Nat} (hl : a.length = b.length) (h : i < a.length) : (a.drop i == b.drop i) = ((a.getD i d == b.getD i d) && (a.drop (i + 1) == b.drop (i + 1))) := by
  have h2 : i < b.length := by omega
  have e1 := drop_getD d h
  have e2 := drop_getD d h2
  rw [e1, e2]; rfl
theorem d_l02Same (a b : List Int) (ha : a.length ≤ 1099511627776) (hb : b.length ≤ 1099511627776) : Gives Go.Proofs.Tryz.prog 108 [.rd 1 (a.map intRow), .rd 1 (b.map intRow)] (.bool (a == b)) := by
  refine gives_of_V mixed Go.Proofs.Tryz.call108 Go.Proofs.Tryz.func108 rfl (by rw [Go.Proofs.Tryz.ntmps108]; simp) ?_
  simp (maxSteps := 2000000) (contextual := true) only [↓ctl, evl, val, valP, own, tys, Tryz.ntmps108, Tryz.results108, ↓V_convert, ↓V_bytes, stdl, cond_true, cond_false, Nat.reduceEqDiff, Nat.reduceAdd, Nat.reduceMul, Nat.reduceSub, Nat.reduceLT, Int.reduceEq, Int.reduceLT, Int.reduceLE, Int.reduceNeg, Nat.reduceLeDiff, if_true, if_false, ↓reduceIte, forall_const, implies_true, reduceCtorEq, forall_eq_or_imp, forall_eq, ne_eq]
  refine ⟨fun h => ?_, fun h => ?_⟩
  · have : a.length ≠ b.length := by omega
    symm; simp only [beq_eq_false_iff_ne]; intro e; exact this (by rw [e])
  have hl : a.length = b.length := by omega
  refine V_loopI mixed (ι := {i : Nat // i ≤ a.length ∧ (a == b) = (a.drop i == b.drop i)}) (fun i => ⟨[(1, true, .rd 1 (b.map intRow)), (12, true, .rd 1 (a.map intRow)), (13, true, I a.length), (14, true, I i.1)], [], 0, 26⟩) (fun i => a.length - i.1)  ⟨0, by simp⟩ ?_ ?_ ?_
  · refine weakI ?_
    simp (maxSteps := 2000000) (contextual := true) only [↓ctl, evl, val, valP, own, tys, Tryz.ntmps108, Tryz.results108, ↓V_convert, ↓V_bytes, stdl, cond_true, cond_false, Nat.reduceEqDiff, Nat.reduceAdd, Nat.reduceMul, Nat.reduceSub, Nat.reduceLT, Int.reduceEq, Int.reduceLT, Int.reduceLE, Int.reduceNeg, Nat.reduceLeDiff, if_true, if_false, ↓reduceIte, forall_const, implies_true, reduceCtorEq, forall_eq_or_imp, forall_eq, ne_eq]
    simp [hl]
  · trivial
  · rintro ⟨i, hi, hx⟩
    simp (maxSteps := 2000000) (contextual := true) only [↓ctl, evl, val, valP, own, tys, Tryz.ntmps108, Tryz.results108, ↓V_convert, ↓V_bytes, stdl, cond_true, cond_false, Nat.reduceEqDiff, Nat.reduceAdd, Nat.reduceMul, Nat.reduceSub, Nat.reduceLT, Int.reduceEq, Int.reduceLT, Int.reduceLE, Int.reduceNeg, Nat.reduceLeDiff, if_true, if_false, ↓reduceIte, forall_const, implies_true, reduceCtorEq, forall_eq_or_imp, forall_eq, ne_eq, ← hl]
    refine ⟨fun hlt => ⟨fun h0 => ?_, fun h0 => V_backI ⟨i + 1, by omega, ?_⟩ (by show _ - (i + 1) < _; omega) (weakI ?_)⟩, fun hlt => ?_⟩
    · rw [hx, eq_drop default hl hlt]; grind
    · rw [hx, eq_drop default hl hlt]; grind
    · simp (maxSteps := 2000000) (contextual := true) only [↓ctl, evl, val, valP, own, tys, Tryz.ntmps108, Tryz.results108, ↓V_convert, ↓V_bytes, stdl, cond_true, cond_false, Nat.reduceEqDiff, Nat.reduceAdd, Nat.reduceMul, Nat.reduceSub, Nat.reduceLT, Int.reduceEq, Int.reduceLT, Int.reduceLE, Int.reduceNeg, Nat.reduceLeDiff, if_true, if_false, ↓reduceIte, forall_const, implies_true, reduceCtorEq, forall_eq_or_imp, forall_eq, ne_eq]
      rw [wrap_id (by omega) (by omega)]
      rfl
    · rw [hx, drop_end _ _ hlt, drop_end _ _ (by omega)]; rfl
end Go.Proofs.YtobnbajakenbeaaGreat


/- Data: entries, inodes; contracts: sameness. -/
set_option linter.all false
set_option maxRecDepth 10000
namespace Go.Proofs.YtobnbajakenbeaaGreat
open Go Go.Eng

structure Acl where
  tag : Int
  id : Int
  perm : Int
  deriving DecidableEq, Inhabited
structure Inode where
  kind : Int
  mode : Int
  uid : Int
  gid : Int
  links : Int
  size : Int
  tick : Int
  blocks : List Int
  acl : List Acl
  dflt : List Acl
  deriving DecidableEq, Inhabited

def intVals (n : Int) : List Value := [.int .i64 n]
def aclVals (e : Acl) : List Value := [.int .i64 e.tag, .int .i64 e.id, .int .i64 e.perm]
def aclRow (e : Acl) : List Cell := [.v (.int .i64 e.tag), .v (.int .i64 e.id), .v (.int .i64 e.perm)]
theorem aclRow_e (e : Acl) : aclRow e = [.v (.int .i64 e.tag), .v (.int .i64 e.id), .v (.int .i64 e.perm)] := rfl
theorem ints_map (l : List Int) : (l.map intVals).map (fun x => x.map Cell.v) = l.map intRow := by rw [List.map_map]; rfl
theorem acls_map (l : List Acl) : (l.map aclVals).map (fun x => x.map Cell.v) = l.map aclRow := by rw [List.map_map]; rfl
def aclAV (e : Acl) : AV := .agg [I e.tag, I e.id, I e.perm]
def inodeRow (n : Inode) : List Cell := [.v (.int .i64 n.kind), .v (.int .i64 n.mode), .v (.int .i64 n.uid), .v (.int .i64 n.gid), .v (.int .i64 n.links), .v (.int .i64 n.size), .v (.int .i64 n.tick),
  .s 3 1 (n.blocks.map intVals), .s 130 3 (n.acl.map aclVals), .s 130 3 (n.dflt.map aclVals)]
theorem inodeRow_e (n : Inode) : inodeRow n = [.v (.int .i64 n.kind), .v (.int .i64 n.mode), .v (.int .i64 n.uid), .v (.int .i64 n.gid), .v (.int .i64 n.links), .v (.int .i64 n.size), .v (.int .i64 n.tick),
  .s 3 1 (n.blocks.map intVals), .s 130 3 (n.acl.map aclVals), .s 130 3 (n.dflt.map aclVals)] := rfl
def inodeAV (n : Inode) : AV := .agg [I n.kind, I n.mode, I n.uid, I n.gid, I n.links, I n.size, I n.tick, .rd 1 (n.blocks.map intRow), .rd 3 (n.acl.map aclRow), .rd 3 (n.dflt.map aclRow)]
/-- The rules for rows. -/
theorem dat : (type_of% @aclRow_e) ∧ (type_of% @ints_map) ∧ (type_of% @acls_map) ∧ (type_of% @inodeRow_e) := ⟨@aclRow_e, @ints_map, @acls_map, @inodeRow_e⟩

theorem c_EqualI (a b : List Int) (ha : a.length ≤ 1099511627776) (hb : b.length ≤ 1099511627776) : Gives Go.Proofs.Tryz.prog 124 [.rd 1 (a.map intRow), .rd 1 (b.map intRow)] (.bool (a == b)) := by
  refine gives_of_V mixed Go.Proofs.Tryz.call124 Go.Proofs.Tryz.func124 rfl (by rw [Go.Proofs.Tryz.ntmps124]; simp) ?_
  simp (maxSteps := 2000000) (contextual := true) only [↓ctl, evl, val, valP, own, tys, Tryz.ntmps124, Tryz.results124, ↓V_convert, ↓V_bytes, stdl, cond_true, cond_false, Nat.reduceEqDiff, Nat.reduceAdd, Nat.reduceMul, Nat.reduceSub, Nat.reduceLT, Int.reduceEq, Int.reduceLT, Int.reduceLE, Int.reduceNeg, Nat.reduceLeDiff, if_true, if_false, ↓reduceIte, forall_const, implies_true, reduceCtorEq, forall_eq_or_imp, forall_eq, ne_eq]
  refine ⟨fun h => ?_, fun h => ?_⟩
  · have : a.length ≠ b.length := by omega
    symm; simp only [beq_eq_false_iff_ne]; intro e; exact this (by rw [e])
  have hl : a.length = b.length := by omega
  refine V_loopI mixed (ι := {i : Nat // i ≤ a.length ∧ (a == b) = (a.drop i == b.drop i)}) (fun i => ⟨[(0, true, .rd 1 (a.map intRow)), (1, true, .rd 1 (b.map intRow)), (12, true, I a.length), (13, true, I i.1)], [], 0, 26⟩) (fun i => a.length - i.1)  ⟨0, by simp⟩ ?_ ?_ ?_
  · refine weakI ?_
    simp (maxSteps := 2000000) (contextual := true) only [↓ctl, evl, val, valP, own, tys, Tryz.ntmps124, Tryz.results124, ↓V_convert, ↓V_bytes, stdl, cond_true, cond_false, Nat.reduceEqDiff, Nat.reduceAdd, Nat.reduceMul, Nat.reduceSub, Nat.reduceLT, Int.reduceEq, Int.reduceLT, Int.reduceLE, Int.reduceNeg, Nat.reduceLeDiff, if_true, if_false, ↓reduceIte, forall_const, implies_true, reduceCtorEq, forall_eq_or_imp, forall_eq, ne_eq]
    simp [hl]
  · trivial
  · rintro ⟨i, hi, hx⟩
    simp (maxSteps := 2000000) (contextual := true) only [↓ctl, evl, val, valP, own, tys, Tryz.ntmps124, Tryz.results124, ↓V_convert, ↓V_bytes, stdl, cond_true, cond_false, Nat.reduceEqDiff, Nat.reduceAdd, Nat.reduceMul, Nat.reduceSub, Nat.reduceLT, Int.reduceEq, Int.reduceLT, Int.reduceLE, Int.reduceNeg, Nat.reduceLeDiff, if_true, if_false, ↓reduceIte, forall_const, implies_true, reduceCtorEq, forall_eq_or_imp, forall_eq, ne_eq, ← hl]
    refine ⟨fun hlt => ⟨by kernel_rfl, fun h0 => ?_, fun h0 => V_backI ⟨i + 1, by omega, ?_⟩ (by show _ - (i + 1) < _; omega) (weakI ?_)⟩, fun hlt => ?_⟩
    · rw [hx, eq_drop default hl hlt]; grind
    · rw [hx, eq_drop default hl hlt]; grind
    · simp (maxSteps := 2000000) (contextual := true) only [↓ctl, evl, val, valP, own, tys, Tryz.ntmps124, Tryz.results124, ↓V_convert, ↓V_bytes, stdl, cond_true, cond_false, Nat.reduceEqDiff, Nat.reduceAdd, Nat.reduceMul, Nat.reduceSub, Nat.reduceLT, Int.reduceEq, Int.reduceLT, Int.reduceLE, Int.reduceNeg, Nat.reduceLeDiff, if_true, if_false, ↓reduceIte, forall_const, implies_true, reduceCtorEq, forall_eq_or_imp, forall_eq, ne_eq]
      rw [wrap_id (by omega) (by omega)]
      rfl
    · rw [hx, drop_end _ _ hlt, drop_end _ _ (by omega)]; rfl
theorem acl_beq (a b : Acl) : (a == b) = (a.tag == b.tag && (a.id == b.id && a.perm == b.perm)) := by
  cases a; cases b; grind
theorem c_EqualA (a b : List Acl) (ha : a.length ≤ 1099511627776) (hb : b.length ≤ 1099511627776) : Gives Go.Proofs.Tryz.prog 125 [.rd 3 (a.map aclRow), .rd 3 (b.map aclRow)] (.bool (a == b)) := by
  refine gives_of_V mixed Go.Proofs.Tryz.call125 Go.Proofs.Tryz.func125 rfl (by rw [Go.Proofs.Tryz.ntmps125]; simp) ?_
  simp (maxSteps := 2000000) (contextual := true) only [↓ctl, evl, val, valP, own, tys, Tryz.ntmps125, Tryz.results125, ↓V_convert, ↓V_bytes, stdl, cond_true, cond_false, Nat.reduceEqDiff, Nat.reduceAdd, Nat.reduceMul, Nat.reduceSub, Nat.reduceLT, Int.reduceEq, Int.reduceLT, Int.reduceLE, Int.reduceNeg, Nat.reduceLeDiff, if_true, if_false, ↓reduceIte, forall_const, implies_true, reduceCtorEq, forall_eq_or_imp, forall_eq, ne_eq]
  refine ⟨fun h => ?_, fun h => ?_⟩
  · have : a.length ≠ b.length := by omega
    symm; simp only [beq_eq_false_iff_ne]; intro e; exact this (by rw [e])
  have hl : a.length = b.length := by omega
  refine V_loopI mixed (ι := {i : Nat // i ≤ a.length ∧ (a == b) = (a.drop i == b.drop i)}) (fun i => ⟨[(0, true, .rd 3 (a.map aclRow)), (1, true, .rd 3 (b.map aclRow)), (12, true, I a.length), (13, true, I i.1)], [], 0, 26⟩) (fun i => a.length - i.1)  ⟨0, by simp⟩ ?_ ?_ ?_
  · refine weakI ?_
    simp (maxSteps := 2000000) (contextual := true) only [↓ctl, evl, val, valP, own, tys, Tryz.ntmps125, Tryz.results125, ↓V_convert, ↓V_bytes, stdl, cond_true, cond_false, Nat.reduceEqDiff, Nat.reduceAdd, Nat.reduceMul, Nat.reduceSub, Nat.reduceLT, Int.reduceEq, Int.reduceLT, Int.reduceLE, Int.reduceNeg, Nat.reduceLeDiff, if_true, if_false, ↓reduceIte, forall_const, implies_true, reduceCtorEq, forall_eq_or_imp, forall_eq, ne_eq]
    simp [hl]
  · trivial
  · rintro ⟨i, hi, hx⟩
    simp (maxSteps := 2000000) (contextual := true) only [↓ctl, evl, val, valP, own, tys, Tryz.ntmps125, Tryz.results125, ↓V_convert, ↓V_bytes, stdl, cond_true, cond_false, Nat.reduceEqDiff, Nat.reduceAdd, Nat.reduceMul, Nat.reduceSub, Nat.reduceLT, Int.reduceEq, Int.reduceLT, Int.reduceLE, Int.reduceNeg, Nat.reduceLeDiff, if_true, if_false, ↓reduceIte, forall_const, implies_true, reduceCtorEq, forall_eq_or_imp, forall_eq, ne_eq, ← hl, dat]
    refine ⟨fun hlt => ⟨by kernel_rfl, fun h0 => ?_, fun h0 => V_backI ⟨i + 1, by omega, ?_⟩ (by show _ - (i + 1) < _; omega) (weakI ?_)⟩, fun hlt => ?_⟩
    · rw [hx, eq_drop default hl hlt, acl_beq]; grind
    · rw [hx, eq_drop default hl hlt, acl_beq]; grind
    · simp (maxSteps := 2000000) (contextual := true) only [↓ctl, evl, val, valP, own, tys, Tryz.ntmps125, Tryz.results125, ↓V_convert, ↓V_bytes, stdl, cond_true, cond_false, Nat.reduceEqDiff, Nat.reduceAdd, Nat.reduceMul, Nat.reduceSub, Nat.reduceLT, Int.reduceEq, Int.reduceLT, Int.reduceLE, Int.reduceNeg, Nat.reduceLeDiff, if_true, if_false, ↓reduceIte, forall_const, implies_true, reduceCtorEq, forall_eq_or_imp, forall_eq, ne_eq]
      rw [wrap_id (by omega) (by omega)]
      rfl
    · rw [hx, drop_end _ _ hlt, drop_end _ _ (by omega)]; rfl
theorem d_l05Same (a b : List Acl) (ha : a.length ≤ 1099511627776) (hb : b.length ≤ 1099511627776) : Gives Go.Proofs.Tryz.prog 109 [.rd 3 (a.map aclRow), .rd 3 (b.map aclRow)] (.bool (a == b)) := by
  refine gives_of_V mixed Go.Proofs.Tryz.call109 Go.Proofs.Tryz.func109 rfl (by rw [Go.Proofs.Tryz.ntmps109]; simp) ?_
  simp (maxSteps := 2000000) (contextual := true) only [↓ctl, evl, val, valP, own, tys, Tryz.ntmps109, Tryz.results109, ↓V_convert, ↓V_bytes, stdl, cond_true, cond_false, Nat.reduceEqDiff, Nat.reduceAdd, Nat.reduceMul, Nat.reduceSub, Nat.reduceLT, Int.reduceEq, Int.reduceLT, Int.reduceLE, Int.reduceNeg, Nat.reduceLeDiff, if_true, if_false, ↓reduceIte, forall_const, implies_true, reduceCtorEq, forall_eq_or_imp, forall_eq, ne_eq]
  refine ⟨fun h => ?_, fun h => ?_⟩
  · have : a.length ≠ b.length := by omega
    symm; simp only [beq_eq_false_iff_ne]; intro e; exact this (by rw [e])
  have hl : a.length = b.length := by omega
  refine V_loopI mixed (ι := {i : Nat // i ≤ a.length ∧ (a == b) = (a.drop i == b.drop i)}) (fun i => ⟨[(1, true, .rd 3 (b.map aclRow)), (12, true, .rd 3 (a.map aclRow)), (13, true, I a.length), (14, true, I i.1)], [], 0, 26⟩) (fun i => a.length - i.1)  ⟨0, by simp⟩ ?_ ?_ ?_
  · refine weakI ?_
    simp (maxSteps := 2000000) (contextual := true) only [↓ctl, evl, val, valP, own, tys, Tryz.ntmps109, Tryz.results109, ↓V_convert, ↓V_bytes, stdl, cond_true, cond_false, Nat.reduceEqDiff, Nat.reduceAdd, Nat.reduceMul, Nat.reduceSub, Nat.reduceLT, Int.reduceEq, Int.reduceLT, Int.reduceLE, Int.reduceNeg, Nat.reduceLeDiff, if_true, if_false, ↓reduceIte, forall_const, implies_true, reduceCtorEq, forall_eq_or_imp, forall_eq, ne_eq]
    simp [hl]
  · trivial
  · rintro ⟨i, hi, hx⟩
    simp (maxSteps := 2000000) (contextual := true) only [↓ctl, evl, val, valP, own, tys, Tryz.ntmps109, Tryz.results109, ↓V_convert, ↓V_bytes, stdl, cond_true, cond_false, Nat.reduceEqDiff, Nat.reduceAdd, Nat.reduceMul, Nat.reduceSub, Nat.reduceLT, Int.reduceEq, Int.reduceLT, Int.reduceLE, Int.reduceNeg, Nat.reduceLeDiff, if_true, if_false, ↓reduceIte, forall_const, implies_true, reduceCtorEq, forall_eq_or_imp, forall_eq, ne_eq, ← hl, dat]
    refine ⟨fun hlt => ⟨by kernel_rfl, fun h0 => ?_, fun h0 => V_backI ⟨i + 1, by omega, ?_⟩ (by show _ - (i + 1) < _; omega) (weakI ?_)⟩, fun hlt => ?_⟩
    · rw [hx, eq_drop default hl hlt, acl_beq]; grind
    · rw [hx, eq_drop default hl hlt, acl_beq]; grind
    · simp (maxSteps := 2000000) (contextual := true) only [↓ctl, evl, val, valP, own, tys, Tryz.ntmps109, Tryz.results109, ↓V_convert, ↓V_bytes, stdl, cond_true, cond_false, Nat.reduceEqDiff, Nat.reduceAdd, Nat.reduceMul, Nat.reduceSub, Nat.reduceLT, Int.reduceEq, Int.reduceLT, Int.reduceLE, Int.reduceNeg, Nat.reduceLeDiff, if_true, if_false, ↓reduceIte, forall_const, implies_true, reduceCtorEq, forall_eq_or_imp, forall_eq, ne_eq]
      rw [wrap_id (by omega) (by omega)]
      rfl
    · rw [hx, drop_end _ _ hlt, drop_end _ _ (by omega)]; rfl


end Go.Proofs.YtobnbajakenbeaaGreat


/- Contracts: the same inode. -/
set_option linter.all false
set_option maxRecDepth 10000
namespace Go.Proofs.YtobnbajakenbeaaGreat
open Go Go.Eng

/-- The lengths are within bounds. -/
def Inode.fits (n : Inode) : Prop := n.blocks.length ≤ 1099511627776 ∧ n.acl.length ≤ 1099511627776 ∧ n.dflt.length ≤ 1099511627776
theorem inode_beq (a b : Inode) : (a == b) = (a.kind == b.kind && a.mode == b.mode && a.uid == b.uid && a.gid == b.gid && a.links == b.links && a.size == b.size && a.tick == b.tick && a.blocks == b.blocks && a.acl == b.acl && a.dflt == b.dflt) := by
  cases a; cases b; grind
theorem d_SameInode (a b : Inode) (ha : a.fits) (hb : b.fits) : Gives Go.Proofs.Tryz.prog 83 [inodeAV a, inodeAV b] (.bool (a == b)) := by
  refine gives_of_V mixed Go.Proofs.Tryz.call83 Go.Proofs.Tryz.func83 rfl (by rw [Go.Proofs.Tryz.ntmps83]; simp) ?_
  simp (maxSteps := 2000000) only [↓ctl, evl, val, valP, own, tys, Tryz.ntmps83, Tryz.results83, ↓V_convert, ↓V_bytes, stdl, cond_true, cond_false, Nat.reduceEqDiff, Nat.reduceAdd, Nat.reduceMul, Nat.reduceSub, Nat.reduceLT, Int.reduceEq, Int.reduceLT, Int.reduceLE, Int.reduceNeg, Nat.reduceLeDiff, if_true, if_false, ↓reduceIte, forall_const, implies_true, reduceCtorEq, forall_eq_or_imp, forall_eq, ne_eq, inodeAV]
  refine ⟨fun h => ?_, fun h => ?_⟩
  · rw [inode_beq]; grind
  refine V_callF mixed (cap := []) (fun _ => d_l02Same a.blocks b.blocks ha.1 hb.1) (by simp (maxSteps := 2000000) (contextual := true) only [↓ctl, evl, val, valP, own, tys, Tryz.ntmps83, Tryz.results83, ↓V_convert, ↓V_bytes, stdl, cond_true, cond_false, Nat.reduceEqDiff, Nat.reduceAdd, Nat.reduceMul, Nat.reduceSub, Nat.reduceLT, Int.reduceEq, Int.reduceLT, Int.reduceLE, Int.reduceNeg, Nat.reduceLeDiff, if_true, if_false, ↓reduceIte, forall_const, implies_true, reduceCtorEq, forall_eq_or_imp, forall_eq, ne_eq]) (by simp (maxSteps := 2000000) (contextual := true) only [↓ctl, evl, val, valP, own, tys, Tryz.ntmps83, Tryz.results83, ↓V_convert, ↓V_bytes, stdl, cond_true, cond_false, Nat.reduceEqDiff, Nat.reduceAdd, Nat.reduceMul, Nat.reduceSub, Nat.reduceLT, Int.reduceEq, Int.reduceLT, Int.reduceLE, Int.reduceNeg, Nat.reduceLeDiff, if_true, if_false, ↓reduceIte, forall_const, implies_true, reduceCtorEq, forall_eq_or_imp, forall_eq, ne_eq]) (by simp (maxSteps := 2000000) (contextual := true) only [↓ctl, evl, val, valP, own, tys, Tryz.ntmps83, Tryz.results83, ↓V_convert, ↓V_bytes, stdl, cond_true, cond_false, Nat.reduceEqDiff, Nat.reduceAdd, Nat.reduceMul, Nat.reduceSub, Nat.reduceLT, Int.reduceEq, Int.reduceLT, Int.reduceLE, Int.reduceNeg, Nat.reduceLeDiff, if_true, if_false, ↓reduceIte, forall_const, implies_true, reduceCtorEq, forall_eq_or_imp, forall_eq, ne_eq]) trivial ?_
  simp (maxSteps := 2000000) only [↓ctl, evl, val, valP, own, tys, Tryz.ntmps83, Tryz.results83, ↓V_convert, ↓V_bytes, stdl, cond_true, cond_false, Nat.reduceEqDiff, Nat.reduceAdd, Nat.reduceMul, Nat.reduceSub, Nat.reduceLT, Int.reduceEq, Int.reduceLT, Int.reduceLE, Int.reduceNeg, Nat.reduceLeDiff, if_true, if_false, ↓reduceIte, forall_const, implies_true, reduceCtorEq, forall_eq_or_imp, forall_eq, ne_eq]
  refine V_callF mixed (cap := []) (fun _ => d_l05Same a.acl b.acl ha.2.1 hb.2.1) (by simp (maxSteps := 2000000) (contextual := true) only [↓ctl, evl, val, valP, own, tys, Tryz.ntmps83, Tryz.results83, ↓V_convert, ↓V_bytes, stdl, cond_true, cond_false, Nat.reduceEqDiff, Nat.reduceAdd, Nat.reduceMul, Nat.reduceSub, Nat.reduceLT, Int.reduceEq, Int.reduceLT, Int.reduceLE, Int.reduceNeg, Nat.reduceLeDiff, if_true, if_false, ↓reduceIte, forall_const, implies_true, reduceCtorEq, forall_eq_or_imp, forall_eq, ne_eq]) (by simp (maxSteps := 2000000) (contextual := true) only [↓ctl, evl, val, valP, own, tys, Tryz.ntmps83, Tryz.results83, ↓V_convert, ↓V_bytes, stdl, cond_true, cond_false, Nat.reduceEqDiff, Nat.reduceAdd, Nat.reduceMul, Nat.reduceSub, Nat.reduceLT, Int.reduceEq, Int.reduceLT, Int.reduceLE, Int.reduceNeg, Nat.reduceLeDiff, if_true, if_false, ↓reduceIte, forall_const, implies_true, reduceCtorEq, forall_eq_or_imp, forall_eq, ne_eq]) (by simp (maxSteps := 2000000) (contextual := true) only [↓ctl, evl, val, valP, own, tys, Tryz.ntmps83, Tryz.results83, ↓V_convert, ↓V_bytes, stdl, cond_true, cond_false, Nat.reduceEqDiff, Nat.reduceAdd, Nat.reduceMul, Nat.reduceSub, Nat.reduceLT, Int.reduceEq, Int.reduceLT, Int.reduceLE, Int.reduceNeg, Nat.reduceLeDiff, if_true, if_false, ↓reduceIte, forall_const, implies_true, reduceCtorEq, forall_eq_or_imp, forall_eq, ne_eq]) trivial ?_
  simp (maxSteps := 2000000) only [↓ctl, evl, val, valP, own, tys, Tryz.ntmps83, Tryz.results83, ↓V_convert, ↓V_bytes, stdl, cond_true, cond_false, Nat.reduceEqDiff, Nat.reduceAdd, Nat.reduceMul, Nat.reduceSub, Nat.reduceLT, Int.reduceEq, Int.reduceLT, Int.reduceLE, Int.reduceNeg, Nat.reduceLeDiff, if_true, if_false, ↓reduceIte, forall_const, implies_true, reduceCtorEq, forall_eq_or_imp, forall_eq, ne_eq]
  refine V_callF mixed (cap := []) (fun _ => d_l05Same a.dflt b.dflt ha.2.2 hb.2.2) (by simp (maxSteps := 2000000) (contextual := true) only [↓ctl, evl, val, valP, own, tys, Tryz.ntmps83, Tryz.results83, ↓V_convert, ↓V_bytes, stdl, cond_true, cond_false, Nat.reduceEqDiff, Nat.reduceAdd, Nat.reduceMul, Nat.reduceSub, Nat.reduceLT, Int.reduceEq, Int.reduceLT, Int.reduceLE, Int.reduceNeg, Nat.reduceLeDiff, if_true, if_false, ↓reduceIte, forall_const, implies_true, reduceCtorEq, forall_eq_or_imp, forall_eq, ne_eq]) (by simp (maxSteps := 2000000) (contextual := true) only [↓ctl, evl, val, valP, own, tys, Tryz.ntmps83, Tryz.results83, ↓V_convert, ↓V_bytes, stdl, cond_true, cond_false, Nat.reduceEqDiff, Nat.reduceAdd, Nat.reduceMul, Nat.reduceSub, Nat.reduceLT, Int.reduceEq, Int.reduceLT, Int.reduceLE, Int.reduceNeg, Nat.reduceLeDiff, if_true, if_false, ↓reduceIte, forall_const, implies_true, reduceCtorEq, forall_eq_or_imp, forall_eq, ne_eq]) (by simp (maxSteps := 2000000) (contextual := true) only [↓ctl, evl, val, valP, own, tys, Tryz.ntmps83, Tryz.results83, ↓V_convert, ↓V_bytes, stdl, cond_true, cond_false, Nat.reduceEqDiff, Nat.reduceAdd, Nat.reduceMul, Nat.reduceSub, Nat.reduceLT, Int.reduceEq, Int.reduceLT, Int.reduceLE, Int.reduceNeg, Nat.reduceLeDiff, if_true, if_false, ↓reduceIte, forall_const, implies_true, reduceCtorEq, forall_eq_or_imp, forall_eq, ne_eq]) trivial ?_
  simp (maxSteps := 2000000) only [↓ctl, evl, val, valP, own, tys, Tryz.ntmps83, Tryz.results83, ↓V_convert, ↓V_bytes, stdl, cond_true, cond_false, Nat.reduceEqDiff, Nat.reduceAdd, Nat.reduceMul, Nat.reduceSub, Nat.reduceLT, Int.reduceEq, Int.reduceLT, Int.reduceLE, Int.reduceNeg, Nat.reduceLeDiff, if_true, if_false, ↓reduceIte, forall_const, implies_true, reduceCtorEq, forall_eq_or_imp, forall_eq, ne_eq]
  rw [inode_beq]; grind
theorem c_SameInode (a b : Inode) (ha : a.fits) (hb : b.fits) : Gives Go.Proofs.Tryz.prog 112 [inodeAV a, inodeAV b] (.bool (a == b)) := by
  refine gives_of_V mixed Go.Proofs.Tryz.call112 Go.Proofs.Tryz.func112 rfl (by rw [Go.Proofs.Tryz.ntmps112]; simp) ?_
  simp only [List.append_eq, List.cons_append, List.nil_append]
  simp (maxSteps := 2000000) only [↓ctl, evl, val, valP, own, tys, Tryz.ntmps112, Tryz.results112, ↓V_convert, ↓V_bytes, stdl, cond_true, cond_false, Nat.reduceEqDiff, Nat.reduceAdd, Nat.reduceMul, Nat.reduceSub, Nat.reduceLT, Int.reduceEq, Int.reduceLT, Int.reduceLE, Int.reduceNeg, Nat.reduceLeDiff, if_true, if_false, ↓reduceIte, forall_const, implies_true, reduceCtorEq, forall_eq_or_imp, forall_eq, ne_eq, inodeAV]
  refine V_callF mixed (cap := []) (fun _ => c_EqualI a.blocks b.blocks ha.1 hb.1) (by simp (maxSteps := 2000000) (contextual := true) only [↓ctl, evl, val, valP, own, tys, Tryz.ntmps112, Tryz.results112, ↓V_convert, ↓V_bytes, stdl, cond_true, cond_false, Nat.reduceEqDiff, Nat.reduceAdd, Nat.reduceMul, Nat.reduceSub, Nat.reduceLT, Int.reduceEq, Int.reduceLT, Int.reduceLE, Int.reduceNeg, Nat.reduceLeDiff, if_true, if_false, ↓reduceIte, forall_const, implies_true, reduceCtorEq, forall_eq_or_imp, forall_eq, ne_eq]) (by simp (maxSteps := 2000000) (contextual := true) only [↓ctl, evl, val, valP, own, tys, Tryz.ntmps112, Tryz.results112, ↓V_convert, ↓V_bytes, stdl, cond_true, cond_false, Nat.reduceEqDiff, Nat.reduceAdd, Nat.reduceMul, Nat.reduceSub, Nat.reduceLT, Int.reduceEq, Int.reduceLT, Int.reduceLE, Int.reduceNeg, Nat.reduceLeDiff, if_true, if_false, ↓reduceIte, forall_const, implies_true, reduceCtorEq, forall_eq_or_imp, forall_eq, ne_eq]) (by simp (maxSteps := 2000000) (contextual := true) only [↓ctl, evl, val, valP, own, tys, Tryz.ntmps112, Tryz.results112, ↓V_convert, ↓V_bytes, stdl, cond_true, cond_false, Nat.reduceEqDiff, Nat.reduceAdd, Nat.reduceMul, Nat.reduceSub, Nat.reduceLT, Int.reduceEq, Int.reduceLT, Int.reduceLE, Int.reduceNeg, Nat.reduceLeDiff, if_true, if_false, ↓reduceIte, forall_const, implies_true, reduceCtorEq, forall_eq_or_imp, forall_eq, ne_eq]) trivial ?_
  simp (maxSteps := 2000000) only [↓ctl, evl, val, valP, own, tys, Tryz.ntmps112, Tryz.results112, ↓V_convert, ↓V_bytes, stdl, cond_true, cond_false, Nat.reduceEqDiff, Nat.reduceAdd, Nat.reduceMul, Nat.reduceSub, Nat.reduceLT, Int.reduceEq, Int.reduceLT, Int.reduceLE, Int.reduceNeg, Nat.reduceLeDiff, if_true, if_false, ↓reduceIte, forall_const, implies_true, reduceCtorEq, forall_eq_or_imp, forall_eq, ne_eq]
  refine V_callF mixed (cap := []) (fun _ => c_EqualA a.acl b.acl ha.2.1 hb.2.1) (by simp (maxSteps := 2000000) (contextual := true) only [↓ctl, evl, val, valP, own, tys, Tryz.ntmps112, Tryz.results112, ↓V_convert, ↓V_bytes, stdl, cond_true, cond_false, Nat.reduceEqDiff, Nat.reduceAdd, Nat.reduceMul, Nat.reduceSub, Nat.reduceLT, Int.reduceEq, Int.reduceLT, Int.reduceLE, Int.reduceNeg, Nat.reduceLeDiff, if_true, if_false, ↓reduceIte, forall_const, implies_true, reduceCtorEq, forall_eq_or_imp, forall_eq, ne_eq]) (by simp (maxSteps := 2000000) (contextual := true) only [↓ctl, evl, val, valP, own, tys, Tryz.ntmps112, Tryz.results112, ↓V_convert, ↓V_bytes, stdl, cond_true, cond_false, Nat.reduceEqDiff, Nat.reduceAdd, Nat.reduceMul, Nat.reduceSub, Nat.reduceLT, Int.reduceEq, Int.reduceLT, Int.reduceLE, Int.reduceNeg, Nat.reduceLeDiff, if_true, if_false, ↓reduceIte, forall_const, implies_true, reduceCtorEq, forall_eq_or_imp, forall_eq, ne_eq]) (by simp (maxSteps := 2000000) (contextual := true) only [↓ctl, evl, val, valP, own, tys, Tryz.ntmps112, Tryz.results112, ↓V_convert, ↓V_bytes, stdl, cond_true, cond_false, Nat.reduceEqDiff, Nat.reduceAdd, Nat.reduceMul, Nat.reduceSub, Nat.reduceLT, Int.reduceEq, Int.reduceLT, Int.reduceLE, Int.reduceNeg, Nat.reduceLeDiff, if_true, if_false, ↓reduceIte, forall_const, implies_true, reduceCtorEq, forall_eq_or_imp, forall_eq, ne_eq]) trivial ?_
  simp (maxSteps := 2000000) only [↓ctl, evl, val, valP, own, tys, Tryz.ntmps112, Tryz.results112, ↓V_convert, ↓V_bytes, stdl, cond_true, cond_false, Nat.reduceEqDiff, Nat.reduceAdd, Nat.reduceMul, Nat.reduceSub, Nat.reduceLT, Int.reduceEq, Int.reduceLT, Int.reduceLE, Int.reduceNeg, Nat.reduceLeDiff, if_true, if_false, ↓reduceIte, forall_const, implies_true, reduceCtorEq, forall_eq_or_imp, forall_eq, ne_eq]
  refine V_callF mixed (cap := []) (fun _ => c_EqualA a.dflt b.dflt ha.2.2 hb.2.2) (by simp (maxSteps := 2000000) (contextual := true) only [↓ctl, evl, val, valP, own, tys, Tryz.ntmps112, Tryz.results112, ↓V_convert, ↓V_bytes, stdl, cond_true, cond_false, Nat.reduceEqDiff, Nat.reduceAdd, Nat.reduceMul, Nat.reduceSub, Nat.reduceLT, Int.reduceEq, Int.reduceLT, Int.reduceLE, Int.reduceNeg, Nat.reduceLeDiff, if_true, if_false, ↓reduceIte, forall_const, implies_true, reduceCtorEq, forall_eq_or_imp, forall_eq, ne_eq]) (by simp (maxSteps := 2000000) (contextual := true) only [↓ctl, evl, val, valP, own, tys, Tryz.ntmps112, Tryz.results112, ↓V_convert, ↓V_bytes, stdl, cond_true, cond_false, Nat.reduceEqDiff, Nat.reduceAdd, Nat.reduceMul, Nat.reduceSub, Nat.reduceLT, Int.reduceEq, Int.reduceLT, Int.reduceLE, Int.reduceNeg, Nat.reduceLeDiff, if_true, if_false, ↓reduceIte, forall_const, implies_true, reduceCtorEq, forall_eq_or_imp, forall_eq, ne_eq]) (by simp (maxSteps := 2000000) (contextual := true) only [↓ctl, evl, val, valP, own, tys, Tryz.ntmps112, Tryz.results112, ↓V_convert, ↓V_bytes, stdl, cond_true, cond_false, Nat.reduceEqDiff, Nat.reduceAdd, Nat.reduceMul, Nat.reduceSub, Nat.reduceLT, Int.reduceEq, Int.reduceLT, Int.reduceLE, Int.reduceNeg, Nat.reduceLeDiff, if_true, if_false, ↓reduceIte, forall_const, implies_true, reduceCtorEq, forall_eq_or_imp, forall_eq, ne_eq]) trivial ?_
  simp (maxSteps := 2000000) only [↓ctl, evl, val, valP, own, tys, Tryz.ntmps112, Tryz.results112, ↓V_convert, ↓V_bytes, stdl, cond_true, cond_false, Nat.reduceEqDiff, Nat.reduceAdd, Nat.reduceMul, Nat.reduceSub, Nat.reduceLT, Int.reduceEq, Int.reduceLT, Int.reduceLE, Int.reduceNeg, Nat.reduceLeDiff, if_true, if_false, ↓reduceIte, forall_const, implies_true, reduceCtorEq, forall_eq_or_imp, forall_eq, ne_eq]
  rw [inode_beq]
end Go.Proofs.YtobnbajakenbeaaGreat


/- Contracts: access control lists, the reference's test. -/
set_option linter.all false
set_option maxRecDepth 10000
namespace Go.Proofs.YtobnbajakenbeaaGreat
open Go Go.Eng

def entryOk (e : Acl) : Bool := inR e.perm 0 7 && (if e.tag = 1 ∨ e.tag = 2 then inR e.id 0 3 else if e.tag = 3 then e.id == 0 else false)
theorem d_l05Entry (e : Acl) : Gives Go.Proofs.Tryz.prog 110 [aclAV e] (.bool (entryOk e)) := by
  refine gives_of_V mixed Go.Proofs.Tryz.call110 Go.Proofs.Tryz.func110 rfl (by rw [Go.Proofs.Tryz.ntmps110]; simp) ?_
  simp (maxSteps := 2000000) only [↓ctl, evl, val, valP, own, tys, Tryz.ntmps110, Tryz.results110, ↓V_convert, ↓V_bytes, stdl, cond_true, cond_false, Nat.reduceEqDiff, Nat.reduceAdd, Nat.reduceMul, Nat.reduceSub, Nat.reduceLT, Int.reduceEq, Int.reduceLT, Int.reduceLE, Int.reduceNeg, Nat.reduceLeDiff, if_true, if_false, ↓reduceIte, forall_const, implies_true, reduceCtorEq, forall_eq_or_imp, forall_eq, ne_eq, aclAV]
  refine V_callF mixed (cap := []) (fun _ => d_l01In e.perm 0 7) (by simp (maxSteps := 2000000) (contextual := true) only [↓ctl, evl, val, valP, own, tys, Tryz.ntmps110, Tryz.results110, ↓V_convert, ↓V_bytes, stdl, cond_true, cond_false, Nat.reduceEqDiff, Nat.reduceAdd, Nat.reduceMul, Nat.reduceSub, Nat.reduceLT, Int.reduceEq, Int.reduceLT, Int.reduceLE, Int.reduceNeg, Nat.reduceLeDiff, if_true, if_false, ↓reduceIte, forall_const, implies_true, reduceCtorEq, forall_eq_or_imp, forall_eq, ne_eq]) (by simp (maxSteps := 2000000) (contextual := true) only [↓ctl, evl, val, valP, own, tys, Tryz.ntmps110, Tryz.results110, ↓V_convert, ↓V_bytes, stdl, cond_true, cond_false, Nat.reduceEqDiff, Nat.reduceAdd, Nat.reduceMul, Nat.reduceSub, Nat.reduceLT, Int.reduceEq, Int.reduceLT, Int.reduceLE, Int.reduceNeg, Nat.reduceLeDiff, if_true, if_false, ↓reduceIte, forall_const, implies_true, reduceCtorEq, forall_eq_or_imp, forall_eq, ne_eq]) (by simp (maxSteps := 2000000) (contextual := true) only [↓ctl, evl, val, valP, own, tys, Tryz.ntmps110, Tryz.results110, ↓V_convert, ↓V_bytes, stdl, cond_true, cond_false, Nat.reduceEqDiff, Nat.reduceAdd, Nat.reduceMul, Nat.reduceSub, Nat.reduceLT, Int.reduceEq, Int.reduceLT, Int.reduceLE, Int.reduceNeg, Nat.reduceLeDiff, if_true, if_false, ↓reduceIte, forall_const, implies_true, reduceCtorEq, forall_eq_or_imp, forall_eq, ne_eq]) trivial ?_
  simp (maxSteps := 2000000) (contextual := true) only [↓ctl, evl, val, valP, own, tys, Tryz.ntmps110, Tryz.results110, ↓V_convert, ↓V_bytes, stdl, cond_true, cond_false, Nat.reduceEqDiff, Nat.reduceAdd, Nat.reduceMul, Nat.reduceSub, Nat.reduceLT, Int.reduceEq, Int.reduceLT, Int.reduceLE, Int.reduceNeg, Nat.reduceLeDiff, if_true, if_false, ↓reduceIte, forall_const, implies_true, reduceCtorEq, forall_eq_or_imp, forall_eq, ne_eq]
  refine ⟨fun h => by simp [entryOk, h], fun h => ⟨fun h1 => ?_, fun h1 => ⟨fun h2 => ?_, fun h2 => ⟨fun h3 => ?_, fun h3 => ?_⟩⟩⟩⟩
  · refine V_callF mixed (cap := []) (fun _ => d_l01In e.id 0 3) (by simp (maxSteps := 2000000) (contextual := true) only [↓ctl, evl, val, valP, own, tys, Tryz.ntmps110, Tryz.results110, ↓V_convert, ↓V_bytes, stdl, cond_true, cond_false, Nat.reduceEqDiff, Nat.reduceAdd, Nat.reduceMul, Nat.reduceSub, Nat.reduceLT, Int.reduceEq, Int.reduceLT, Int.reduceLE, Int.reduceNeg, Nat.reduceLeDiff, if_true, if_false, ↓reduceIte, forall_const, implies_true, reduceCtorEq, forall_eq_or_imp, forall_eq, ne_eq]) (by simp (maxSteps := 2000000) (contextual := true) only [↓ctl, evl, val, valP, own, tys, Tryz.ntmps110, Tryz.results110, ↓V_convert, ↓V_bytes, stdl, cond_true, cond_false, Nat.reduceEqDiff, Nat.reduceAdd, Nat.reduceMul, Nat.reduceSub, Nat.reduceLT, Int.reduceEq, Int.reduceLT, Int.reduceLE, Int.reduceNeg, Nat.reduceLeDiff, if_true, if_false, ↓reduceIte, forall_const, implies_true, reduceCtorEq, forall_eq_or_imp, forall_eq, ne_eq]) (by simp (maxSteps := 2000000) (contextual := true) only [↓ctl, evl, val, valP, own, tys, Tryz.ntmps110, Tryz.results110, ↓V_convert, ↓V_bytes, stdl, cond_true, cond_false, Nat.reduceEqDiff, Nat.reduceAdd, Nat.reduceMul, Nat.reduceSub, Nat.reduceLT, Int.reduceEq, Int.reduceLT, Int.reduceLE, Int.reduceNeg, Nat.reduceLeDiff, if_true, if_false, ↓reduceIte, forall_const, implies_true, reduceCtorEq, forall_eq_or_imp, forall_eq, ne_eq]) trivial ?_
    simp (maxSteps := 2000000) only [↓ctl, evl, val, valP, own, tys, Tryz.ntmps110, Tryz.results110, ↓V_convert, ↓V_bytes, stdl, cond_true, cond_false, Nat.reduceEqDiff, Nat.reduceAdd, Nat.reduceMul, Nat.reduceSub, Nat.reduceLT, Int.reduceEq, Int.reduceLT, Int.reduceLE, Int.reduceNeg, Nat.reduceLeDiff, if_true, if_false, ↓reduceIte, forall_const, implies_true, reduceCtorEq, forall_eq_or_imp, forall_eq, ne_eq]
    simp [entryOk, h, h1]
  · refine V_callF mixed (cap := []) (fun _ => d_l01In e.id 0 3) (by simp (maxSteps := 2000000) (contextual := true) only [↓ctl, evl, val, valP, own, tys, Tryz.ntmps110, Tryz.results110, ↓V_convert, ↓V_bytes, stdl, cond_true, cond_false, Nat.reduceEqDiff, Nat.reduceAdd, Nat.reduceMul, Nat.reduceSub, Nat.reduceLT, Int.reduceEq, Int.reduceLT, Int.reduceLE, Int.reduceNeg, Nat.reduceLeDiff, if_true, if_false, ↓reduceIte, forall_const, implies_true, reduceCtorEq, forall_eq_or_imp, forall_eq, ne_eq]) (by simp (maxSteps := 2000000) (contextual := true) only [↓ctl, evl, val, valP, own, tys, Tryz.ntmps110, Tryz.results110, ↓V_convert, ↓V_bytes, stdl, cond_true, cond_false, Nat.reduceEqDiff, Nat.reduceAdd, Nat.reduceMul, Nat.reduceSub, Nat.reduceLT, Int.reduceEq, Int.reduceLT, Int.reduceLE, Int.reduceNeg, Nat.reduceLeDiff, if_true, if_false, ↓reduceIte, forall_const, implies_true, reduceCtorEq, forall_eq_or_imp, forall_eq, ne_eq]) (by simp (maxSteps := 2000000) (contextual := true) only [↓ctl, evl, val, valP, own, tys, Tryz.ntmps110, Tryz.results110, ↓V_convert, ↓V_bytes, stdl, cond_true, cond_false, Nat.reduceEqDiff, Nat.reduceAdd, Nat.reduceMul, Nat.reduceSub, Nat.reduceLT, Int.reduceEq, Int.reduceLT, Int.reduceLE, Int.reduceNeg, Nat.reduceLeDiff, if_true, if_false, ↓reduceIte, forall_const, implies_true, reduceCtorEq, forall_eq_or_imp, forall_eq, ne_eq]) trivial ?_
    simp (maxSteps := 2000000) only [↓ctl, evl, val, valP, own, tys, Tryz.ntmps110, Tryz.results110, ↓V_convert, ↓V_bytes, stdl, cond_true, cond_false, Nat.reduceEqDiff, Nat.reduceAdd, Nat.reduceMul, Nat.reduceSub, Nat.reduceLT, Int.reduceEq, Int.reduceLT, Int.reduceLE, Int.reduceNeg, Nat.reduceLeDiff, if_true, if_false, ↓reduceIte, forall_const, implies_true, reduceCtorEq, forall_eq_or_imp, forall_eq, ne_eq]
    simp [entryOk, h, h2]
  · simp [entryOk, h, h3]
  · simp [entryOk, h, h1, h2, h3]
def aclLt (p e : Acl) : Bool := decide (p.tag < e.tag ∨ p.tag = e.tag ∧ p.id < e.id)
def aclFrom : Option Acl → List Acl → Bool
  | _, [] => true
  | none, e :: r => entryOk e && aclFrom (some e) r
  | some p, e :: r => entryOk e && aclLt p e && aclFrom (some e) r
def isAcl (l : List Acl) : Bool := aclFrom none l && (l.length == 0 || (decide (l.length ≤ 6) && (l.getD (l.length - 1) default).tag == 3))
def prevA (l : List Acl) (i : Nat) : Option Acl := if i = 0 then none else some (l.getD (i - 1) default)
theorem aclFrom_step {l : List Acl} {i : Nat} (h : i < l.length) : aclFrom (prevA l i) (l.drop i) = (entryOk (l.getD i default) && (decide (i = 0) || aclLt (l.getD (i - 1) default) (l.getD i default)) && aclFrom (prevA l (i + 1)) (l.drop (i + 1))) := by
  rw [drop_getD default h]
  have e : prevA l (i + 1) = some (l.getD i default) := by simp [prevA]
  rw [e]
  by_cases h0 : i = 0
  · subst h0; simp [prevA, aclFrom]
  · simp [prevA, aclFrom, h0]
theorem aclFrom_end {l : List Acl} {i : Nat} (h : ¬ i < l.length) : aclFrom (prevA l i) (l.drop i) = true := by
  rw [drop_end _ _ h]; cases prevA l i <;> rfl
theorem d_IsAcl (l : List Acl) (hl : l.length ≤ 1099511627776) : Gives Go.Proofs.Tryz.prog 88 [.rd 3 (l.map aclRow)] (.bool (isAcl l)) := by
  refine gives_of_V mixed Go.Proofs.Tryz.call88 Go.Proofs.Tryz.func88 rfl (by rw [Go.Proofs.Tryz.ntmps88]; simp) ?_
  simp (maxSteps := 2000000) (contextual := true) only [↓ctl, evl, val, valP, own, tys, Tryz.ntmps88, Tryz.results88, ↓V_convert, ↓V_bytes, stdl, cond_true, cond_false, Nat.reduceEqDiff, Nat.reduceAdd, Nat.reduceMul, Nat.reduceSub, Nat.reduceLT, Int.reduceEq, Int.reduceLT, Int.reduceLE, Int.reduceNeg, Nat.reduceLeDiff, if_true, if_false, ↓reduceIte, forall_const, implies_true, reduceCtorEq, forall_eq_or_imp, forall_eq, ne_eq]
  refine V_loopI mixed (ι := {i : Nat // i ≤ l.length ∧ aclFrom none l = aclFrom (prevA l i) (l.drop i)}) (fun i => ⟨[(0, true, .rd 3 (l.map aclRow)), (6, true, .rd 3 (l.map aclRow)), (7, true, I l.length), (8, true, I i.1)], [], 0, 71⟩) (fun i => l.length - i.1)  ⟨0, by simp [prevA]⟩ ?_ ?_ ?_
  · refine weakI ?_
    simp (maxSteps := 2000000) (contextual := true) only [↓ctl, evl, val, valP, own, tys, Tryz.ntmps88, Tryz.results88, ↓V_convert, ↓V_bytes, stdl, cond_true, cond_false, Nat.reduceEqDiff, Nat.reduceAdd, Nat.reduceMul, Nat.reduceSub, Nat.reduceLT, Int.reduceEq, Int.reduceLT, Int.reduceLE, Int.reduceNeg, Nat.reduceLeDiff, if_true, if_false, ↓reduceIte, forall_const, implies_true, reduceCtorEq, forall_eq_or_imp, forall_eq, ne_eq]
    rfl
  · trivial
  · rintro ⟨i, hi, hx⟩
    by_cases hlt : i < l.length
    · have e1 : IntKind.i64.wrap ((i : Int) - 1) = i - 1 := wrap_id (by omega) (by omega)
      have e2 : ((i : Int) - 1).toNat = i - 1 := by omega
      have e3 : i - 1 < l.length := by omega
      simp (maxSteps := 2000000) only [↓ctl, evl, val, valP, own, tys, Tryz.ntmps88, Tryz.results88, ↓V_convert, ↓V_bytes, stdl, cond_true, cond_false, Nat.reduceEqDiff, Nat.reduceAdd, Nat.reduceMul, Nat.reduceSub, Nat.reduceLT, Int.reduceEq, Int.reduceLT, Int.reduceLE, Int.reduceNeg, Nat.reduceLeDiff, if_true, if_false, ↓reduceIte, forall_const, implies_true, reduceCtorEq, forall_eq_or_imp, forall_eq, ne_eq, dat, hlt]
      refine ⟨by kernel_rfl, ?_⟩
      refine V_callF mixed (cap := []) (fun _ => d_l05Entry (l.getD i default)) ?_ ?_ ?_ trivial ?_
      · simp (maxSteps := 2000000) (contextual := true) only [↓ctl, evl, val, valP, own, tys, Tryz.ntmps88, Tryz.results88, ↓V_convert, ↓V_bytes, stdl, cond_true, cond_false, Nat.reduceEqDiff, Nat.reduceAdd, Nat.reduceMul, Nat.reduceSub, Nat.reduceLT, Int.reduceEq, Int.reduceLT, Int.reduceLE, Int.reduceNeg, Nat.reduceLeDiff, if_true, if_false, ↓reduceIte, forall_const, implies_true, reduceCtorEq, forall_eq_or_imp, forall_eq, ne_eq, aclAV]
      · simp (maxSteps := 2000000) (contextual := true) only [↓ctl, evl, val, valP, own, tys, Tryz.ntmps88, Tryz.results88, ↓V_convert, ↓V_bytes, stdl, cond_true, cond_false, Nat.reduceEqDiff, Nat.reduceAdd, Nat.reduceMul, Nat.reduceSub, Nat.reduceLT, Int.reduceEq, Int.reduceLT, Int.reduceLE, Int.reduceNeg, Nat.reduceLeDiff, if_true, if_false, ↓reduceIte, forall_const, implies_true, reduceCtorEq, forall_eq_or_imp, forall_eq, ne_eq]
      · simp (maxSteps := 2000000) (contextual := true) only [↓ctl, evl, val, valP, own, tys, Tryz.ntmps88, Tryz.results88, ↓V_convert, ↓V_bytes, stdl, cond_true, cond_false, Nat.reduceEqDiff, Nat.reduceAdd, Nat.reduceMul, Nat.reduceSub, Nat.reduceLT, Int.reduceEq, Int.reduceLT, Int.reduceLE, Int.reduceNeg, Nat.reduceLeDiff, if_true, if_false, ↓reduceIte, forall_const, implies_true, reduceCtorEq, forall_eq_or_imp, forall_eq, ne_eq]
      simp (maxSteps := 2000000) only [↓ctl, evl, val, valP, own, tys, Tryz.ntmps88, Tryz.results88, ↓V_convert, ↓V_bytes, stdl, cond_true, cond_false, Nat.reduceEqDiff, Nat.reduceAdd, Nat.reduceMul, Nat.reduceSub, Nat.reduceLT, Int.reduceEq, Int.reduceLT, Int.reduceLE, Int.reduceNeg, Nat.reduceLeDiff, if_true, if_false, ↓reduceIte, forall_const, implies_true, reduceCtorEq, forall_eq_or_imp, forall_eq, ne_eq, dat, hlt, e1, e2, e3]
      refine ⟨fun h => ⟨h, by omega, by omega⟩, fun h => ⟨h, by omega, by omega⟩, fun h => ⟨h, by omega, by omega⟩, by grind, by grind, by grind, fun h => ?_, fun h => V_backI ⟨i + 1, by omega, ?_⟩ (by show _ - (i + 1) < _; omega) (weakI ?_)⟩
      · have := aclFrom_step hlt
        unfold isAcl aclLt at *
        grind
      · have := aclFrom_step hlt
        unfold aclLt at this
        grind
      · simp (maxSteps := 2000000) only [↓ctl, evl, val, valP, own, tys, Tryz.ntmps88, Tryz.results88, ↓V_convert, ↓V_bytes, stdl, cond_true, cond_false, Nat.reduceEqDiff, Nat.reduceAdd, Nat.reduceMul, Nat.reduceSub, Nat.reduceLT, Int.reduceEq, Int.reduceLT, Int.reduceLE, Int.reduceNeg, Nat.reduceLeDiff, if_true, if_false, ↓reduceIte, forall_const, implies_true, reduceCtorEq, forall_eq_or_imp, forall_eq, ne_eq]
        rw [wrap_id (by omega) (by omega)]
        rfl
    · have hn : i = l.length := by omega
      have hx' := hx.trans (aclFrom_end hlt)
      by_cases h0 : l.length = 0
      · simp (maxSteps := 2000000) only [↓ctl, evl, val, valP, own, tys, Tryz.ntmps88, Tryz.results88, ↓V_convert, ↓V_bytes, stdl, cond_true, cond_false, Nat.reduceEqDiff, Nat.reduceAdd, Nat.reduceMul, Nat.reduceSub, Nat.reduceLT, Int.reduceEq, Int.reduceLT, Int.reduceLE, Int.reduceNeg, Nat.reduceLeDiff, if_true, if_false, ↓reduceIte, forall_const, implies_true, reduceCtorEq, forall_eq_or_imp, forall_eq, ne_eq, hlt, h0]
        simp [isAcl, hx', h0]
      have e1 : IntKind.i64.wrap ((l.length : Int) - 1) = l.length - 1 := wrap_id (by omega) (by omega)
      have e2 : ((l.length : Int) - 1).toNat = l.length - 1 := by omega
      have e3 : l.length - 1 < l.length := by omega
      simp (maxSteps := 2000000) only [↓ctl, evl, val, valP, own, tys, Tryz.ntmps88, Tryz.results88, ↓V_convert, ↓V_bytes, stdl, cond_true, cond_false, Nat.reduceEqDiff, Nat.reduceAdd, Nat.reduceMul, Nat.reduceSub, Nat.reduceLT, Int.reduceEq, Int.reduceLT, Int.reduceLE, Int.reduceNeg, Nat.reduceLeDiff, if_true, if_false, ↓reduceIte, forall_const, implies_true, reduceCtorEq, forall_eq_or_imp, forall_eq, ne_eq, dat, hlt, e1, e2, e3]
      refine ⟨fun h => ⟨h, by omega, by omega⟩, by grind, ?_⟩
      simp only [isAcl, hx', Bool.true_and]
      grind
end Go.Proofs.YtobnbajakenbeaaGreat


/- Contracts: access control lists, the program's test. -/
set_option linter.all false
set_option maxRecDepth 10000
set_option maxHeartbeats 4000000
namespace Go.Proofs.YtobnbajakenbeaaGreat
open Go Go.Eng

def cmpI (a b : Int) : Int := if a < b then -1 else if b < a then 1 else 0
theorem c_CompareI (a b : Int) : Gives Go.Proofs.Tryz.prog 127 [I a, I b] (.int .i64 (cmpI a b)) := c_Compare a b
theorem c_Or (a b : Int) : Gives Go.Proofs.Tryz.prog 126 [.rd 1 [intRow a, intRow b]] (.int .i64 (if a = 0 then b else a)) := by
  refine gives_of_V mixed Go.Proofs.Tryz.call126 Go.Proofs.Tryz.func126 rfl (by rw [Go.Proofs.Tryz.ntmps126]; simp) ?_
  simp (maxSteps := 2000000) (contextual := true) only [↓ctl, evl, val, valP, own, ↓ctlM, tys, Tryz.ntmps126, Tryz.results126, ↓V_convert, ↓V_bytes, stdl, cond_true, cond_false, Nat.reduceEqDiff, Nat.reduceAdd, Nat.reduceMul, Nat.reduceSub, Nat.reduceLT, Int.reduceEq, Int.reduceLT, Int.reduceLE, Int.reduceNeg, Nat.reduceLeDiff, if_true, if_false, ↓reduceIte, forall_const, implies_true, reduceCtorEq, forall_eq_or_imp, forall_eq, ne_eq]
  refine V_loopI mixed (ι := {i : Nat // i ≤ 2 ∧ (i = 0 ∨ a = 0) ∧ (i = 2 → b = 0)}) (fun i => ⟨[(3, true, I 0), (6, true, .rd 1 [intRow a, intRow b]), (7, true, I 2), (8, true, I i.1)], [], 0, 18⟩) (fun i => 2 - i.1)  ⟨0, by simp⟩ ?_ ?_ ?_
  · refine weakI ?_
    simp (maxSteps := 2000000) (contextual := true) only [↓ctl, evl, val, valP, own, ↓ctlM, tys, Tryz.ntmps126, Tryz.results126, ↓V_convert, ↓V_bytes, stdl, cond_true, cond_false, Nat.reduceEqDiff, Nat.reduceAdd, Nat.reduceMul, Nat.reduceSub, Nat.reduceLT, Int.reduceEq, Int.reduceLT, Int.reduceLE, Int.reduceNeg, Nat.reduceLeDiff, if_true, if_false, ↓reduceIte, forall_const, implies_true, reduceCtorEq, forall_eq_or_imp, forall_eq, ne_eq]
    exact ⟨rfl, rfl⟩
  · trivial
  · rintro ⟨i, hi, hx, hy⟩
    have hc : i = 0 ∨ i = 1 ∨ i = 2 := by omega
    rcases hc with rfl | rfl | rfl
    · simp (maxSteps := 2000000) (contextual := true) only [↓ctl, evl, val, valP, own, ↓ctlM, tys, Tryz.ntmps126, Tryz.results126, ↓V_convert, ↓V_bytes, stdl, cond_true, cond_false, Nat.reduceEqDiff, Nat.reduceAdd, Nat.reduceMul, Nat.reduceSub, Nat.reduceLT, Int.reduceEq, Int.reduceLT, Int.reduceLE, Int.reduceNeg, Nat.reduceLeDiff, if_true, if_false, ↓reduceIte, forall_const, implies_true, reduceCtorEq, forall_eq_or_imp, forall_eq, ne_eq]
      refine ⟨fun _ h => ?_, fun h => absurd (by decide) h⟩
      subst h
      refine V_backI ⟨1, by omega, by simp, by simp⟩ (by show 2 - 1 < 2; omega) (weakI ?_)
      simp (maxSteps := 2000000) (contextual := true) only [↓ctl, evl, val, valP, own, ↓ctlM, tys, Tryz.ntmps126, Tryz.results126, ↓V_convert, ↓V_bytes, stdl, cond_true, cond_false, Nat.reduceEqDiff, Nat.reduceAdd, Nat.reduceMul, Nat.reduceSub, Nat.reduceLT, Int.reduceEq, Int.reduceLT, Int.reduceLE, Int.reduceNeg, Nat.reduceLeDiff, if_true, if_false, ↓reduceIte, forall_const, implies_true, reduceCtorEq, forall_eq_or_imp, forall_eq, ne_eq]
      rfl
    · have ha : a = 0 := by omega
      subst ha
      simp (maxSteps := 2000000) (contextual := true) only [↓ctl, evl, val, valP, own, ↓ctlM, tys, Tryz.ntmps126, Tryz.results126, ↓V_convert, ↓V_bytes, stdl, cond_true, cond_false, Nat.reduceEqDiff, Nat.reduceAdd, Nat.reduceMul, Nat.reduceSub, Nat.reduceLT, Int.reduceEq, Int.reduceLT, Int.reduceLE, Int.reduceNeg, Nat.reduceLeDiff, if_true, if_false, ↓reduceIte, forall_const, implies_true, reduceCtorEq, forall_eq_or_imp, forall_eq, ne_eq]
      refine ⟨fun _ h => ?_, fun h => absurd (by decide) h⟩
      subst h
      refine V_backI ⟨2, by omega, by simp, by simp⟩ (by show 2 - 2 < 1; omega) (weakI ?_)
      simp (maxSteps := 2000000) (contextual := true) only [↓ctl, evl, val, valP, own, ↓ctlM, tys, Tryz.ntmps126, Tryz.results126, ↓V_convert, ↓V_bytes, stdl, cond_true, cond_false, Nat.reduceEqDiff, Nat.reduceAdd, Nat.reduceMul, Nat.reduceSub, Nat.reduceLT, Int.reduceEq, Int.reduceLT, Int.reduceLE, Int.reduceNeg, Nat.reduceLeDiff, if_true, if_false, ↓reduceIte, forall_const, implies_true, reduceCtorEq, forall_eq_or_imp, forall_eq, ne_eq]
      rfl
    · have ha : a = 0 := by omega
      have hb : b = 0 := by omega
      subst ha; subst hb
      simp (maxSteps := 2000000) (contextual := true) only [↓ctl, evl, val, valP, own, ↓ctlM, tys, Tryz.ntmps126, Tryz.results126, ↓V_convert, ↓V_bytes, stdl, cond_true, cond_false, Nat.reduceEqDiff, Nat.reduceAdd, Nat.reduceMul, Nat.reduceSub, Nat.reduceLT, Int.reduceEq, Int.reduceLT, Int.reduceLE, Int.reduceNeg, Nat.reduceLeDiff, if_true, if_false, ↓reduceIte, forall_const, implies_true, reduceCtorEq, forall_eq_or_imp, forall_eq, ne_eq]
      exact fun h => absurd h (by decide)
theorem c_IsAcl (l : List Acl) (hl : l.length ≤ 1099511627776) : Gives Go.Proofs.Tryz.prog 115 [.rd 3 (l.map aclRow)] (.bool (isAcl l)) := by
  refine gives_of_V mixed Go.Proofs.Tryz.call115 Go.Proofs.Tryz.func115 rfl (by rw [Go.Proofs.Tryz.ntmps115]; simp) ?_
  simp (maxSteps := 2000000) (contextual := true) only [↓ctl, evl, val, valP, own, ↓ctlM, tys, Tryz.ntmps115, Tryz.results115, ↓V_convert, ↓V_bytes, stdl, cond_true, cond_false, Nat.reduceEqDiff, Nat.reduceAdd, Nat.reduceMul, Nat.reduceSub, Nat.reduceLT, Int.reduceEq, Int.reduceLT, Int.reduceLE, Int.reduceNeg, Nat.reduceLeDiff, if_true, if_false, ↓reduceIte, forall_const, implies_true, reduceCtorEq, forall_eq_or_imp, forall_eq, ne_eq]
  refine ⟨fun h6 => ?_, fun h6 => ?_⟩
  · unfold isAcl; grind
  refine V_loopI mixed (ι := {i : Nat // i ≤ l.length ∧ aclFrom none l = aclFrom (prevA l i) (l.drop i)}) (fun i => ⟨[(0, true, .rd 3 (l.map aclRow)), (8, true, .rd 3 (l.map aclRow)), (9, true, I l.length), (10, true, I i.1)], [], 0, 76⟩) (fun i => l.length - i.1)  ⟨0, by simp [prevA]⟩ ?_ ?_ ?_
  · refine weakI ?_
    simp (maxSteps := 2000000) (contextual := true) only [↓ctl, evl, val, valP, own, ↓ctlM, tys, Tryz.ntmps115, Tryz.results115, ↓V_convert, ↓V_bytes, stdl, cond_true, cond_false, Nat.reduceEqDiff, Nat.reduceAdd, Nat.reduceMul, Nat.reduceSub, Nat.reduceLT, Int.reduceEq, Int.reduceLT, Int.reduceLE, Int.reduceNeg, Nat.reduceLeDiff, if_true, if_false, ↓reduceIte, forall_const, implies_true, reduceCtorEq, forall_eq_or_imp, forall_eq, ne_eq]
    rfl
  · trivial
  · rintro ⟨i, hi, hx⟩
    by_cases hlt : i < l.length
    · have e1 : IntKind.i64.wrap ((i : Int) - 1) = i - 1 := wrap_id (by omega) (by omega)
      have e2 : ((i : Int) - 1).toNat = i - 1 := by omega
      have e3 : i - 1 < l.length := by omega
      have hst := aclFrom_step hlt
      simp (maxSteps := 2000000) only [↓ctl, evl, val, valP, own, ↓ctlM, tys, Tryz.ntmps115, Tryz.results115, ↓V_convert, ↓V_bytes, stdl, cond_true, cond_false, Nat.reduceEqDiff, Nat.reduceAdd, Nat.reduceMul, Nat.reduceSub, Nat.reduceLT, Int.reduceEq, Int.reduceLT, Int.reduceLE, Int.reduceNeg, Nat.reduceLeDiff, if_true, if_false, ↓reduceIte, forall_const, implies_true, reduceCtorEq, forall_eq_or_imp, forall_eq, ne_eq, dat, hlt]
      refine ⟨fun hb => ?_, fun hok => ⟨fun h1 => ⟨fun _ => ?_, fun h => absurd h1 h⟩, fun h1 => ⟨fun h2 => ?_, fun h2 => ⟨fun h3 => ⟨fun h4 => ?_, fun h4 => ?_⟩, fun h3 => ?_⟩⟩⟩⟩
      · have : entryOk (l.getD i default) = false := by unfold entryOk inR; grind
        unfold isAcl; grind
      · refine V_callF mixed (cap := []) (fun _ => e_isUser (l.getD i default).id) (by simp (maxSteps := 2000000) (contextual := true) only [↓ctl, evl, val, valP, own, ↓ctlM, tys, Tryz.ntmps115, Tryz.results115, ↓V_convert, ↓V_bytes, stdl, cond_true, cond_false, Nat.reduceEqDiff, Nat.reduceAdd, Nat.reduceMul, Nat.reduceSub, Nat.reduceLT, Int.reduceEq, Int.reduceLT, Int.reduceLE, Int.reduceNeg, Nat.reduceLeDiff, if_true, if_false, ↓reduceIte, forall_const, implies_true, reduceCtorEq, forall_eq_or_imp, forall_eq, ne_eq]) (by simp (maxSteps := 2000000) (contextual := true) only [↓ctl, evl, val, valP, own, ↓ctlM, tys, Tryz.ntmps115, Tryz.results115, ↓V_convert, ↓V_bytes, stdl, cond_true, cond_false, Nat.reduceEqDiff, Nat.reduceAdd, Nat.reduceMul, Nat.reduceSub, Nat.reduceLT, Int.reduceEq, Int.reduceLT, Int.reduceLE, Int.reduceNeg, Nat.reduceLeDiff, if_true, if_false, ↓reduceIte, forall_const, implies_true, reduceCtorEq, forall_eq_or_imp, forall_eq, ne_eq]) (by simp (maxSteps := 2000000) (contextual := true) only [↓ctl, evl, val, valP, own, ↓ctlM, tys, Tryz.ntmps115, Tryz.results115, ↓V_convert, ↓V_bytes, stdl, cond_true, cond_false, Nat.reduceEqDiff, Nat.reduceAdd, Nat.reduceMul, Nat.reduceSub, Nat.reduceLT, Int.reduceEq, Int.reduceLT, Int.reduceLE, Int.reduceNeg, Nat.reduceLeDiff, if_true, if_false, ↓reduceIte, forall_const, implies_true, reduceCtorEq, forall_eq_or_imp, forall_eq, ne_eq]) trivial ?_
        simp (maxSteps := 2000000) only [↓ctl, evl, val, valP, own, ↓ctlM, tys, Tryz.ntmps115, Tryz.results115, ↓V_convert, ↓V_bytes, stdl, cond_true, cond_false, Nat.reduceEqDiff, Nat.reduceAdd, Nat.reduceMul, Nat.reduceSub, Nat.reduceLT, Int.reduceEq, Int.reduceLT, Int.reduceLE, Int.reduceNeg, Nat.reduceLeDiff, if_true, if_false, ↓reduceIte, forall_const, implies_true, reduceCtorEq, forall_eq_or_imp, forall_eq, ne_eq]
        refine ⟨fun hu => ?_, fun hu => ?_⟩
        · have : entryOk (l.getD i default) = false := by unfold entryOk; unfold isUser at hu; grind
          unfold isAcl; grind
        have hok' : entryOk (l.getD i default) = true := by unfold isUser inR at hu; unfold entryOk inR; grind
        refine VM_start mixed 21 (by kernel_rfl) (by kernel_rfl) trivial ?_
        by_cases h0 : (i : Int) > 0
        · have e4 : (0 : Int) ≤ i - 1 := by omega
          have e5 : (i : Int) - 1 < l.length := by omega
          simp (maxSteps := 2000000) only [↓ctl, evl, val, valP, own, ↓ctlM, tys, Tryz.ntmps115, Tryz.results115, ↓V_convert, ↓V_bytes, stdl, cond_true, cond_false, Nat.reduceEqDiff, Nat.reduceAdd, Nat.reduceMul, Nat.reduceSub, Nat.reduceLT, Int.reduceEq, Int.reduceLT, Int.reduceLE, Int.reduceNeg, Nat.reduceLeDiff, if_true, if_false, ↓reduceIte, forall_const, implies_true, reduceCtorEq, forall_eq_or_imp, forall_eq, ne_eq, dat, hlt, e1, e2, e3, e4, e5, h0]
          refine VM_callI mixed (cap := []) (fun _ => c_CompareI (l.getD (i - 1) default).tag (l.getD i default).tag) (by simp (maxSteps := 2000000) (contextual := true) only [↓ctl, evl, val, valP, own, ↓ctlM, tys, Tryz.ntmps115, Tryz.results115, ↓V_convert, ↓V_bytes, stdl, cond_true, cond_false, Nat.reduceEqDiff, Nat.reduceAdd, Nat.reduceMul, Nat.reduceSub, Nat.reduceLT, Int.reduceEq, Int.reduceLT, Int.reduceLE, Int.reduceNeg, Nat.reduceLeDiff, if_true, if_false, ↓reduceIte, forall_const, implies_true, reduceCtorEq, forall_eq_or_imp, forall_eq, ne_eq, h0]) (by simp (maxSteps := 2000000) only [↓ctl, evl, val, valP, own, ↓ctlM, tys, Tryz.ntmps115, Tryz.results115, ↓V_convert, ↓V_bytes, stdl, cond_true, cond_false, Nat.reduceEqDiff, Nat.reduceAdd, Nat.reduceMul, Nat.reduceSub, Nat.reduceLT, Int.reduceEq, Int.reduceLT, Int.reduceLE, Int.reduceNeg, Nat.reduceLeDiff, if_true, if_false, ↓reduceIte, forall_const, implies_true, reduceCtorEq, forall_eq_or_imp, forall_eq, ne_eq, h0]) (by simp (maxSteps := 2000000) only [↓ctl, evl, val, valP, own, ↓ctlM, tys, Tryz.ntmps115, Tryz.results115, ↓V_convert, ↓V_bytes, stdl, cond_true, cond_false, Nat.reduceEqDiff, Nat.reduceAdd, Nat.reduceMul, Nat.reduceSub, Nat.reduceLT, Int.reduceEq, Int.reduceLT, Int.reduceLE, Int.reduceNeg, Nat.reduceLeDiff, if_true, if_false, ↓reduceIte, forall_const, implies_true, reduceCtorEq, forall_eq_or_imp, forall_eq, ne_eq]) trivial ?_
          simp (maxSteps := 2000000) only [↓ctl, evl, val, valP, own, ↓ctlM, tys, Tryz.ntmps115, Tryz.results115, ↓V_convert, ↓V_bytes, stdl, cond_true, cond_false, Nat.reduceEqDiff, Nat.reduceAdd, Nat.reduceMul, Nat.reduceSub, Nat.reduceLT, Int.reduceEq, Int.reduceLT, Int.reduceLE, Int.reduceNeg, Nat.reduceLeDiff, if_true, if_false, ↓reduceIte, forall_const, implies_true, reduceCtorEq, forall_eq_or_imp, forall_eq, ne_eq, dat, hlt, e1, e2, e3, e4, e5, h0]
          refine VM_callI mixed (cap := []) (fun _ => c_CompareI (l.getD (i - 1) default).id (l.getD i default).id) (by simp (maxSteps := 2000000) (contextual := true) only [↓ctl, evl, val, valP, own, ↓ctlM, tys, Tryz.ntmps115, Tryz.results115, ↓V_convert, ↓V_bytes, stdl, cond_true, cond_false, Nat.reduceEqDiff, Nat.reduceAdd, Nat.reduceMul, Nat.reduceSub, Nat.reduceLT, Int.reduceEq, Int.reduceLT, Int.reduceLE, Int.reduceNeg, Nat.reduceLeDiff, if_true, if_false, ↓reduceIte, forall_const, implies_true, reduceCtorEq, forall_eq_or_imp, forall_eq, ne_eq, h0]) (by simp (maxSteps := 2000000) only [↓ctl, evl, val, valP, own, ↓ctlM, tys, Tryz.ntmps115, Tryz.results115, ↓V_convert, ↓V_bytes, stdl, cond_true, cond_false, Nat.reduceEqDiff, Nat.reduceAdd, Nat.reduceMul, Nat.reduceSub, Nat.reduceLT, Int.reduceEq, Int.reduceLT, Int.reduceLE, Int.reduceNeg, Nat.reduceLeDiff, if_true, if_false, ↓reduceIte, forall_const, implies_true, reduceCtorEq, forall_eq_or_imp, forall_eq, ne_eq, h0]) (by simp (maxSteps := 2000000) only [↓ctl, evl, val, valP, own, ↓ctlM, tys, Tryz.ntmps115, Tryz.results115, ↓V_convert, ↓V_bytes, stdl, cond_true, cond_false, Nat.reduceEqDiff, Nat.reduceAdd, Nat.reduceMul, Nat.reduceSub, Nat.reduceLT, Int.reduceEq, Int.reduceLT, Int.reduceLE, Int.reduceNeg, Nat.reduceLeDiff, if_true, if_false, ↓reduceIte, forall_const, implies_true, reduceCtorEq, forall_eq_or_imp, forall_eq, ne_eq]) trivial ?_
          simp (maxSteps := 2000000) only [↓ctl, evl, val, valP, own, ↓ctlM, tys, Tryz.ntmps115, Tryz.results115, ↓V_convert, ↓V_bytes, stdl, cond_true, cond_false, Nat.reduceEqDiff, Nat.reduceAdd, Nat.reduceMul, Nat.reduceSub, Nat.reduceLT, Int.reduceEq, Int.reduceLT, Int.reduceLE, Int.reduceNeg, Nat.reduceLeDiff, if_true, if_false, ↓reduceIte, forall_const, implies_true, reduceCtorEq, forall_eq_or_imp, forall_eq, ne_eq, dat, h0, litChunk]
          refine VM_callI mixed (cap := []) (fun _ => c_Or (cmpI (l.getD (i - 1) default).tag (l.getD i default).tag) (cmpI (l.getD (i - 1) default).id (l.getD i default).id)) (by simp (maxSteps := 2000000) (contextual := true) only [↓ctl, evl, val, valP, own, ↓ctlM, tys, Tryz.ntmps115, Tryz.results115, ↓V_convert, ↓V_bytes, stdl, cond_true, cond_false, Nat.reduceEqDiff, Nat.reduceAdd, Nat.reduceMul, Nat.reduceSub, Nat.reduceLT, Int.reduceEq, Int.reduceLT, Int.reduceLE, Int.reduceNeg, Nat.reduceLeDiff, if_true, if_false, ↓reduceIte, forall_const, implies_true, reduceCtorEq, forall_eq_or_imp, forall_eq, ne_eq, h0]) (by simp (maxSteps := 2000000) only [↓ctl, evl, val, valP, own, ↓ctlM, tys, Tryz.ntmps115, Tryz.results115, ↓V_convert, ↓V_bytes, stdl, cond_true, cond_false, Nat.reduceEqDiff, Nat.reduceAdd, Nat.reduceMul, Nat.reduceSub, Nat.reduceLT, Int.reduceEq, Int.reduceLT, Int.reduceLE, Int.reduceNeg, Nat.reduceLeDiff, if_true, if_false, ↓reduceIte, forall_const, implies_true, reduceCtorEq, forall_eq_or_imp, forall_eq, ne_eq, h0]) (by simp (maxSteps := 2000000) only [↓ctl, evl, val, valP, own, ↓ctlM, tys, Tryz.ntmps115, Tryz.results115, ↓V_convert, ↓V_bytes, stdl, cond_true, cond_false, Nat.reduceEqDiff, Nat.reduceAdd, Nat.reduceMul, Nat.reduceSub, Nat.reduceLT, Int.reduceEq, Int.reduceLT, Int.reduceLE, Int.reduceNeg, Nat.reduceLeDiff, if_true, if_false, ↓reduceIte, forall_const, implies_true, reduceCtorEq, forall_eq_or_imp, forall_eq, ne_eq]) trivial ?_
          simp (maxSteps := 2000000) only [↓ctl, evl, val, valP, own, ↓ctlM, tys, Tryz.ntmps115, Tryz.results115, ↓V_convert, ↓V_bytes, stdl, cond_true, cond_false, Nat.reduceEqDiff, Nat.reduceAdd, Nat.reduceMul, Nat.reduceSub, Nat.reduceLT, Int.reduceEq, Int.reduceLT, Int.reduceLE, Int.reduceNeg, Nat.reduceLeDiff, if_true, if_false, ↓reduceIte, forall_const, implies_true, reduceCtorEq, forall_eq_or_imp, forall_eq, ne_eq, h0]
          have hd : decide (i = 0) = false := by simp; omega
          have hcmp : ((if cmpI (l.getD (i - 1) default).tag (l.getD i default).tag = 0 then cmpI (l.getD (i - 1) default).id (l.getD i default).id else cmpI (l.getD (i - 1) default).tag (l.getD i default).tag) ≥ 0) ↔ aclLt (l.getD (i - 1) default) (l.getD i default) = false := by
            unfold cmpI aclLt; simp only [decide_eq_false_iff_not]; split <;> split <;> omega
          refine ⟨fun h => ?_, fun h => ?_⟩
          · rw [hcmp] at h
            rw [hd, h] at hst
            unfold isAcl; grind
          · rw [hcmp] at h
            refine V_backI ⟨i + 1, by omega, ?_⟩ (by show _ - (i + 1) < _; omega) (weakI ?_)
            · rw [hx, hst, hok']; grind
            · simp (maxSteps := 2000000) only [↓ctl, evl, val, valP, own, ↓ctlM, tys, Tryz.ntmps115, Tryz.results115, ↓V_convert, ↓V_bytes, stdl, cond_true, cond_false, Nat.reduceEqDiff, Nat.reduceAdd, Nat.reduceMul, Nat.reduceSub, Nat.reduceLT, Int.reduceEq, Int.reduceLT, Int.reduceLE, Int.reduceNeg, Nat.reduceLeDiff, if_true, if_false, ↓reduceIte, forall_const, implies_true, reduceCtorEq, forall_eq_or_imp, forall_eq, ne_eq]
              rw [wrap_id (by omega) (by omega)]
              rfl
        · have hi0 : i = 0 := by omega
          simp (maxSteps := 2000000) only [↓ctl, evl, val, valP, own, ↓ctlM, tys, Tryz.ntmps115, Tryz.results115, ↓V_convert, ↓V_bytes, stdl, cond_true, cond_false, Nat.reduceEqDiff, Nat.reduceAdd, Nat.reduceMul, Nat.reduceSub, Nat.reduceLT, Int.reduceEq, Int.reduceLT, Int.reduceLE, Int.reduceNeg, Nat.reduceLeDiff, if_true, if_false, ↓reduceIte, forall_const, implies_true, reduceCtorEq, forall_eq_or_imp, forall_eq, ne_eq, dat, hlt, h0]
          refine VM_callI mixed (cap := []) (fun _ => c_CompareI 0 0) (by simp (maxSteps := 2000000) (contextual := true) only [↓ctl, evl, val, valP, own, ↓ctlM, tys, Tryz.ntmps115, Tryz.results115, ↓V_convert, ↓V_bytes, stdl, cond_true, cond_false, Nat.reduceEqDiff, Nat.reduceAdd, Nat.reduceMul, Nat.reduceSub, Nat.reduceLT, Int.reduceEq, Int.reduceLT, Int.reduceLE, Int.reduceNeg, Nat.reduceLeDiff, if_true, if_false, ↓reduceIte, forall_const, implies_true, reduceCtorEq, forall_eq_or_imp, forall_eq, ne_eq, h0]) (by simp (maxSteps := 2000000) only [↓ctl, evl, val, valP, own, ↓ctlM, tys, Tryz.ntmps115, Tryz.results115, ↓V_convert, ↓V_bytes, stdl, cond_true, cond_false, Nat.reduceEqDiff, Nat.reduceAdd, Nat.reduceMul, Nat.reduceSub, Nat.reduceLT, Int.reduceEq, Int.reduceLT, Int.reduceLE, Int.reduceNeg, Nat.reduceLeDiff, if_true, if_false, ↓reduceIte, forall_const, implies_true, reduceCtorEq, forall_eq_or_imp, forall_eq, ne_eq, h0]) (by simp (maxSteps := 2000000) only [↓ctl, evl, val, valP, own, ↓ctlM, tys, Tryz.ntmps115, Tryz.results115, ↓V_convert, ↓V_bytes, stdl, cond_true, cond_false, Nat.reduceEqDiff, Nat.reduceAdd, Nat.reduceMul, Nat.reduceSub, Nat.reduceLT, Int.reduceEq, Int.reduceLT, Int.reduceLE, Int.reduceNeg, Nat.reduceLeDiff, if_true, if_false, ↓reduceIte, forall_const, implies_true, reduceCtorEq, forall_eq_or_imp, forall_eq, ne_eq]) trivial ?_
          simp (maxSteps := 2000000) only [↓ctl, evl, val, valP, own, ↓ctlM, tys, Tryz.ntmps115, Tryz.results115, ↓V_convert, ↓V_bytes, stdl, cond_true, cond_false, Nat.reduceEqDiff, Nat.reduceAdd, Nat.reduceMul, Nat.reduceSub, Nat.reduceLT, Int.reduceEq, Int.reduceLT, Int.reduceLE, Int.reduceNeg, Nat.reduceLeDiff, if_true, if_false, ↓reduceIte, forall_const, implies_true, reduceCtorEq, forall_eq_or_imp, forall_eq, ne_eq, dat, hlt, h0]
          refine VM_callI mixed (cap := []) (fun _ => c_CompareI 0 0) (by simp (maxSteps := 2000000) (contextual := true) only [↓ctl, evl, val, valP, own, ↓ctlM, tys, Tryz.ntmps115, Tryz.results115, ↓V_convert, ↓V_bytes, stdl, cond_true, cond_false, Nat.reduceEqDiff, Nat.reduceAdd, Nat.reduceMul, Nat.reduceSub, Nat.reduceLT, Int.reduceEq, Int.reduceLT, Int.reduceLE, Int.reduceNeg, Nat.reduceLeDiff, if_true, if_false, ↓reduceIte, forall_const, implies_true, reduceCtorEq, forall_eq_or_imp, forall_eq, ne_eq, h0]) (by simp (maxSteps := 2000000) only [↓ctl, evl, val, valP, own, ↓ctlM, tys, Tryz.ntmps115, Tryz.results115, ↓V_convert, ↓V_bytes, stdl, cond_true, cond_false, Nat.reduceEqDiff, Nat.reduceAdd, Nat.reduceMul, Nat.reduceSub, Nat.reduceLT, Int.reduceEq, Int.reduceLT, Int.reduceLE, Int.reduceNeg, Nat.reduceLeDiff, if_true, if_false, ↓reduceIte, forall_const, implies_true, reduceCtorEq, forall_eq_or_imp, forall_eq, ne_eq, h0]) (by simp (maxSteps := 2000000) only [↓ctl, evl, val, valP, own, ↓ctlM, tys, Tryz.ntmps115, Tryz.results115, ↓V_convert, ↓V_bytes, stdl, cond_true, cond_false, Nat.reduceEqDiff, Nat.reduceAdd, Nat.reduceMul, Nat.reduceSub, Nat.reduceLT, Int.reduceEq, Int.reduceLT, Int.reduceLE, Int.reduceNeg, Nat.reduceLeDiff, if_true, if_false, ↓reduceIte, forall_const, implies_true, reduceCtorEq, forall_eq_or_imp, forall_eq, ne_eq]) trivial ?_
          simp (maxSteps := 2000000) only [↓ctl, evl, val, valP, own, ↓ctlM, tys, Tryz.ntmps115, Tryz.results115, ↓V_convert, ↓V_bytes, stdl, cond_true, cond_false, Nat.reduceEqDiff, Nat.reduceAdd, Nat.reduceMul, Nat.reduceSub, Nat.reduceLT, Int.reduceEq, Int.reduceLT, Int.reduceLE, Int.reduceNeg, Nat.reduceLeDiff, if_true, if_false, ↓reduceIte, forall_const, implies_true, reduceCtorEq, forall_eq_or_imp, forall_eq, ne_eq, dat, h0, litChunk]
          refine VM_callI mixed (cap := []) (fun _ => c_Or 0 0) (by simp (maxSteps := 2000000) (contextual := true) only [↓ctl, evl, val, valP, own, ↓ctlM, tys, Tryz.ntmps115, Tryz.results115, ↓V_convert, ↓V_bytes, stdl, cond_true, cond_false, Nat.reduceEqDiff, Nat.reduceAdd, Nat.reduceMul, Nat.reduceSub, Nat.reduceLT, Int.reduceEq, Int.reduceLT, Int.reduceLE, Int.reduceNeg, Nat.reduceLeDiff, if_true, if_false, ↓reduceIte, forall_const, implies_true, reduceCtorEq, forall_eq_or_imp, forall_eq, ne_eq, h0]) (by simp (maxSteps := 2000000) only [↓ctl, evl, val, valP, own, ↓ctlM, tys, Tryz.ntmps115, Tryz.results115, ↓V_convert, ↓V_bytes, stdl, cond_true, cond_false, Nat.reduceEqDiff, Nat.reduceAdd, Nat.reduceMul, Nat.reduceSub, Nat.reduceLT, Int.reduceEq, Int.reduceLT, Int.reduceLE, Int.reduceNeg, Nat.reduceLeDiff, if_true, if_false, ↓reduceIte, forall_const, implies_true, reduceCtorEq, forall_eq_or_imp, forall_eq, ne_eq, h0]) (by simp (maxSteps := 2000000) only [↓ctl, evl, val, valP, own, ↓ctlM, tys, Tryz.ntmps115, Tryz.results115, ↓V_convert, ↓V_bytes, stdl, cond_true, cond_false, Nat.reduceEqDiff, Nat.reduceAdd, Nat.reduceMul, Nat.reduceSub, Nat.reduceLT, Int.reduceEq, Int.reduceLT, Int.reduceLE, Int.reduceNeg, Nat.reduceLeDiff, if_true, if_false, ↓reduceIte, forall_const, implies_true, reduceCtorEq, forall_eq_or_imp, forall_eq, ne_eq]) trivial ?_
          simp (maxSteps := 2000000) only [↓ctl, evl, val, valP, own, ↓ctlM, tys, Tryz.ntmps115, Tryz.results115, ↓V_convert, ↓V_bytes, stdl, cond_true, cond_false, Nat.reduceEqDiff, Nat.reduceAdd, Nat.reduceMul, Nat.reduceSub, Nat.reduceLT, Int.reduceEq, Int.reduceLT, Int.reduceLE, Int.reduceNeg, Nat.reduceLeDiff, if_true, if_false, ↓reduceIte, forall_const, implies_true, reduceCtorEq, forall_eq_or_imp, forall_eq, ne_eq, h0]
          refine V_backI ⟨i + 1, by omega, ?_⟩ (by show _ - (i + 1) < _; omega) (weakI ?_)
          · have hd : decide (i = 0) = true := by simp [hi0]
            rw [hx, hst, hok', hd]; grind
          · simp (maxSteps := 2000000) only [↓ctl, evl, val, valP, own, ↓ctlM, tys, Tryz.ntmps115, Tryz.results115, ↓V_convert, ↓V_bytes, stdl, cond_true, cond_false, Nat.reduceEqDiff, Nat.reduceAdd, Nat.reduceMul, Nat.reduceSub, Nat.reduceLT, Int.reduceEq, Int.reduceLT, Int.reduceLE, Int.reduceNeg, Nat.reduceLeDiff, if_true, if_false, ↓reduceIte, forall_const, implies_true, reduceCtorEq, forall_eq_or_imp, forall_eq, ne_eq]
            rw [wrap_id (by omega) (by omega)]
            rfl
      · refine V_callF mixed (cap := []) (fun _ => e_isUser (l.getD i default).id) (by simp (maxSteps := 2000000) (contextual := true) only [↓ctl, evl, val, valP, own, ↓ctlM, tys, Tryz.ntmps115, Tryz.results115, ↓V_convert, ↓V_bytes, stdl, cond_true, cond_false, Nat.reduceEqDiff, Nat.reduceAdd, Nat.reduceMul, Nat.reduceSub, Nat.reduceLT, Int.reduceEq, Int.reduceLT, Int.reduceLE, Int.reduceNeg, Nat.reduceLeDiff, if_true, if_false, ↓reduceIte, forall_const, implies_true, reduceCtorEq, forall_eq_or_imp, forall_eq, ne_eq]) (by simp (maxSteps := 2000000) (contextual := true) only [↓ctl, evl, val, valP, own, ↓ctlM, tys, Tryz.ntmps115, Tryz.results115, ↓V_convert, ↓V_bytes, stdl, cond_true, cond_false, Nat.reduceEqDiff, Nat.reduceAdd, Nat.reduceMul, Nat.reduceSub, Nat.reduceLT, Int.reduceEq, Int.reduceLT, Int.reduceLE, Int.reduceNeg, Nat.reduceLeDiff, if_true, if_false, ↓reduceIte, forall_const, implies_true, reduceCtorEq, forall_eq_or_imp, forall_eq, ne_eq]) (by simp (maxSteps := 2000000) (contextual := true) only [↓ctl, evl, val, valP, own, ↓ctlM, tys, Tryz.ntmps115, Tryz.results115, ↓V_convert, ↓V_bytes, stdl, cond_true, cond_false, Nat.reduceEqDiff, Nat.reduceAdd, Nat.reduceMul, Nat.reduceSub, Nat.reduceLT, Int.reduceEq, Int.reduceLT, Int.reduceLE, Int.reduceNeg, Nat.reduceLeDiff, if_true, if_false, ↓reduceIte, forall_const, implies_true, reduceCtorEq, forall_eq_or_imp, forall_eq, ne_eq]) trivial ?_
        simp (maxSteps := 2000000) only [↓ctl, evl, val, valP, own, ↓ctlM, tys, Tryz.ntmps115, Tryz.results115, ↓V_convert, ↓V_bytes, stdl, cond_true, cond_false, Nat.reduceEqDiff, Nat.reduceAdd, Nat.reduceMul, Nat.reduceSub, Nat.reduceLT, Int.reduceEq, Int.reduceLT, Int.reduceLE, Int.reduceNeg, Nat.reduceLeDiff, if_true, if_false, ↓reduceIte, forall_const, implies_true, reduceCtorEq, forall_eq_or_imp, forall_eq, ne_eq]
        refine ⟨fun hu => ?_, fun hu => ?_⟩
        · have : entryOk (l.getD i default) = false := by unfold entryOk; unfold isUser at hu; grind
          unfold isAcl; grind
        have hok' : entryOk (l.getD i default) = true := by unfold isUser inR at hu; unfold entryOk inR; grind
        refine VM_start mixed 21 (by kernel_rfl) (by kernel_rfl) trivial ?_
        by_cases h0 : (i : Int) > 0
        · have e4 : (0 : Int) ≤ i - 1 := by omega
          have e5 : (i : Int) - 1 < l.length := by omega
          simp (maxSteps := 2000000) only [↓ctl, evl, val, valP, own, ↓ctlM, tys, Tryz.ntmps115, Tryz.results115, ↓V_convert, ↓V_bytes, stdl, cond_true, cond_false, Nat.reduceEqDiff, Nat.reduceAdd, Nat.reduceMul, Nat.reduceSub, Nat.reduceLT, Int.reduceEq, Int.reduceLT, Int.reduceLE, Int.reduceNeg, Nat.reduceLeDiff, if_true, if_false, ↓reduceIte, forall_const, implies_true, reduceCtorEq, forall_eq_or_imp, forall_eq, ne_eq, dat, hlt, e1, e2, e3, e4, e5, h0]
          refine VM_callI mixed (cap := []) (fun _ => c_CompareI (l.getD (i - 1) default).tag (l.getD i default).tag) (by simp (maxSteps := 2000000) (contextual := true) only [↓ctl, evl, val, valP, own, ↓ctlM, tys, Tryz.ntmps115, Tryz.results115, ↓V_convert, ↓V_bytes, stdl, cond_true, cond_false, Nat.reduceEqDiff, Nat.reduceAdd, Nat.reduceMul, Nat.reduceSub, Nat.reduceLT, Int.reduceEq, Int.reduceLT, Int.reduceLE, Int.reduceNeg, Nat.reduceLeDiff, if_true, if_false, ↓reduceIte, forall_const, implies_true, reduceCtorEq, forall_eq_or_imp, forall_eq, ne_eq, h0]) (by simp (maxSteps := 2000000) only [↓ctl, evl, val, valP, own, ↓ctlM, tys, Tryz.ntmps115, Tryz.results115, ↓V_convert, ↓V_bytes, stdl, cond_true, cond_false, Nat.reduceEqDiff, Nat.reduceAdd, Nat.reduceMul, Nat.reduceSub, Nat.reduceLT, Int.reduceEq, Int.reduceLT, Int.reduceLE, Int.reduceNeg, Nat.reduceLeDiff, if_true, if_false, ↓reduceIte, forall_const, implies_true, reduceCtorEq, forall_eq_or_imp, forall_eq, ne_eq, h0]) (by simp (maxSteps := 2000000) only [↓ctl, evl, val, valP, own, ↓ctlM, tys, Tryz.ntmps115, Tryz.results115, ↓V_convert, ↓V_bytes, stdl, cond_true, cond_false, Nat.reduceEqDiff, Nat.reduceAdd, Nat.reduceMul, Nat.reduceSub, Nat.reduceLT, Int.reduceEq, Int.reduceLT, Int.reduceLE, Int.reduceNeg, Nat.reduceLeDiff, if_true, if_false, ↓reduceIte, forall_const, implies_true, reduceCtorEq, forall_eq_or_imp, forall_eq, ne_eq]) trivial ?_
          simp (maxSteps := 2000000) only [↓ctl, evl, val, valP, own, ↓ctlM, tys, Tryz.ntmps115, Tryz.results115, ↓V_convert, ↓V_bytes, stdl, cond_true, cond_false, Nat.reduceEqDiff, Nat.reduceAdd, Nat.reduceMul, Nat.reduceSub, Nat.reduceLT, Int.reduceEq, Int.reduceLT, Int.reduceLE, Int.reduceNeg, Nat.reduceLeDiff, if_true, if_false, ↓reduceIte, forall_const, implies_true, reduceCtorEq, forall_eq_or_imp, forall_eq, ne_eq, dat, hlt, e1, e2, e3, e4, e5, h0]
          refine VM_callI mixed (cap := []) (fun _ => c_CompareI (l.getD (i - 1) default).id (l.getD i default).id) (by simp (maxSteps := 2000000) (contextual := true) only [↓ctl, evl, val, valP, own, ↓ctlM, tys, Tryz.ntmps115, Tryz.results115, ↓V_convert, ↓V_bytes, stdl, cond_true, cond_false, Nat.reduceEqDiff, Nat.reduceAdd, Nat.reduceMul, Nat.reduceSub, Nat.reduceLT, Int.reduceEq, Int.reduceLT, Int.reduceLE, Int.reduceNeg, Nat.reduceLeDiff, if_true, if_false, ↓reduceIte, forall_const, implies_true, reduceCtorEq, forall_eq_or_imp, forall_eq, ne_eq, h0]) (by simp (maxSteps := 2000000) only [↓ctl, evl, val, valP, own, ↓ctlM, tys, Tryz.ntmps115, Tryz.results115, ↓V_convert, ↓V_bytes, stdl, cond_true, cond_false, Nat.reduceEqDiff, Nat.reduceAdd, Nat.reduceMul, Nat.reduceSub, Nat.reduceLT, Int.reduceEq, Int.reduceLT, Int.reduceLE, Int.reduceNeg, Nat.reduceLeDiff, if_true, if_false, ↓reduceIte, forall_const, implies_true, reduceCtorEq, forall_eq_or_imp, forall_eq, ne_eq, h0]) (by simp (maxSteps := 2000000) only [↓ctl, evl, val, valP, own, ↓ctlM, tys, Tryz.ntmps115, Tryz.results115, ↓V_convert, ↓V_bytes, stdl, cond_true, cond_false, Nat.reduceEqDiff, Nat.reduceAdd, Nat.reduceMul, Nat.reduceSub, Nat.reduceLT, Int.reduceEq, Int.reduceLT, Int.reduceLE, Int.reduceNeg, Nat.reduceLeDiff, if_true, if_false, ↓reduceIte, forall_const, implies_true, reduceCtorEq, forall_eq_or_imp, forall_eq, ne_eq]) trivial ?_
          simp (maxSteps := 2000000) only [↓ctl, evl, val, valP, own, ↓ctlM, tys, Tryz.ntmps115, Tryz.results115, ↓V_convert, ↓V_bytes, stdl, cond_true, cond_false, Nat.reduceEqDiff, Nat.reduceAdd, Nat.reduceMul, Nat.reduceSub, Nat.reduceLT, Int.reduceEq, Int.reduceLT, Int.reduceLE, Int.reduceNeg, Nat.reduceLeDiff, if_true, if_false, ↓reduceIte, forall_const, implies_true, reduceCtorEq, forall_eq_or_imp, forall_eq, ne_eq, dat, h0, litChunk]
          refine VM_callI mixed (cap := []) (fun _ => c_Or (cmpI (l.getD (i - 1) default).tag (l.getD i default).tag) (cmpI (l.getD (i - 1) default).id (l.getD i default).id)) (by simp (maxSteps := 2000000) (contextual := true) only [↓ctl, evl, val, valP, own, ↓ctlM, tys, Tryz.ntmps115, Tryz.results115, ↓V_convert, ↓V_bytes, stdl, cond_true, cond_false, Nat.reduceEqDiff, Nat.reduceAdd, Nat.reduceMul, Nat.reduceSub, Nat.reduceLT, Int.reduceEq, Int.reduceLT, Int.reduceLE, Int.reduceNeg, Nat.reduceLeDiff, if_true, if_false, ↓reduceIte, forall_const, implies_true, reduceCtorEq, forall_eq_or_imp, forall_eq, ne_eq, h0]) (by simp (maxSteps := 2000000) only [↓ctl, evl, val, valP, own, ↓ctlM, tys, Tryz.ntmps115, Tryz.results115, ↓V_convert, ↓V_bytes, stdl, cond_true, cond_false, Nat.reduceEqDiff, Nat.reduceAdd, Nat.reduceMul, Nat.reduceSub, Nat.reduceLT, Int.reduceEq, Int.reduceLT, Int.reduceLE, Int.reduceNeg, Nat.reduceLeDiff, if_true, if_false, ↓reduceIte, forall_const, implies_true, reduceCtorEq, forall_eq_or_imp, forall_eq, ne_eq, h0]) (by simp (maxSteps := 2000000) only [↓ctl, evl, val, valP, own, ↓ctlM, tys, Tryz.ntmps115, Tryz.results115, ↓V_convert, ↓V_bytes, stdl, cond_true, cond_false, Nat.reduceEqDiff, Nat.reduceAdd, Nat.reduceMul, Nat.reduceSub, Nat.reduceLT, Int.reduceEq, Int.reduceLT, Int.reduceLE, Int.reduceNeg, Nat.reduceLeDiff, if_true, if_false, ↓reduceIte, forall_const, implies_true, reduceCtorEq, forall_eq_or_imp, forall_eq, ne_eq]) trivial ?_
          simp (maxSteps := 2000000) only [↓ctl, evl, val, valP, own, ↓ctlM, tys, Tryz.ntmps115, Tryz.results115, ↓V_convert, ↓V_bytes, stdl, cond_true, cond_false, Nat.reduceEqDiff, Nat.reduceAdd, Nat.reduceMul, Nat.reduceSub, Nat.reduceLT, Int.reduceEq, Int.reduceLT, Int.reduceLE, Int.reduceNeg, Nat.reduceLeDiff, if_true, if_false, ↓reduceIte, forall_const, implies_true, reduceCtorEq, forall_eq_or_imp, forall_eq, ne_eq, h0]
          have hd : decide (i = 0) = false := by simp; omega
          have hcmp : ((if cmpI (l.getD (i - 1) default).tag (l.getD i default).tag = 0 then cmpI (l.getD (i - 1) default).id (l.getD i default).id else cmpI (l.getD (i - 1) default).tag (l.getD i default).tag) ≥ 0) ↔ aclLt (l.getD (i - 1) default) (l.getD i default) = false := by
            unfold cmpI aclLt; simp only [decide_eq_false_iff_not]; split <;> split <;> omega
          refine ⟨fun h => ?_, fun h => ?_⟩
          · rw [hcmp] at h
            rw [hd, h] at hst
            unfold isAcl; grind
          · rw [hcmp] at h
            refine V_backI ⟨i + 1, by omega, ?_⟩ (by show _ - (i + 1) < _; omega) (weakI ?_)
            · rw [hx, hst, hok']; grind
            · simp (maxSteps := 2000000) only [↓ctl, evl, val, valP, own, ↓ctlM, tys, Tryz.ntmps115, Tryz.results115, ↓V_convert, ↓V_bytes, stdl, cond_true, cond_false, Nat.reduceEqDiff, Nat.reduceAdd, Nat.reduceMul, Nat.reduceSub, Nat.reduceLT, Int.reduceEq, Int.reduceLT, Int.reduceLE, Int.reduceNeg, Nat.reduceLeDiff, if_true, if_false, ↓reduceIte, forall_const, implies_true, reduceCtorEq, forall_eq_or_imp, forall_eq, ne_eq]
              rw [wrap_id (by omega) (by omega)]
              rfl
        · have hi0 : i = 0 := by omega
          simp (maxSteps := 2000000) only [↓ctl, evl, val, valP, own, ↓ctlM, tys, Tryz.ntmps115, Tryz.results115, ↓V_convert, ↓V_bytes, stdl, cond_true, cond_false, Nat.reduceEqDiff, Nat.reduceAdd, Nat.reduceMul, Nat.reduceSub, Nat.reduceLT, Int.reduceEq, Int.reduceLT, Int.reduceLE, Int.reduceNeg, Nat.reduceLeDiff, if_true, if_false, ↓reduceIte, forall_const, implies_true, reduceCtorEq, forall_eq_or_imp, forall_eq, ne_eq, dat, hlt, h0]
          refine VM_callI mixed (cap := []) (fun _ => c_CompareI 0 0) (by simp (maxSteps := 2000000) (contextual := true) only [↓ctl, evl, val, valP, own, ↓ctlM, tys, Tryz.ntmps115, Tryz.results115, ↓V_convert, ↓V_bytes, stdl, cond_true, cond_false, Nat.reduceEqDiff, Nat.reduceAdd, Nat.reduceMul, Nat.reduceSub, Nat.reduceLT, Int.reduceEq, Int.reduceLT, Int.reduceLE, Int.reduceNeg, Nat.reduceLeDiff, if_true, if_false, ↓reduceIte, forall_const, implies_true, reduceCtorEq, forall_eq_or_imp, forall_eq, ne_eq, h0]) (by simp (maxSteps := 2000000) only [↓ctl, evl, val, valP, own, ↓ctlM, tys, Tryz.ntmps115, Tryz.results115, ↓V_convert, ↓V_bytes, stdl, cond_true, cond_false, Nat.reduceEqDiff, Nat.reduceAdd, Nat.reduceMul, Nat.reduceSub, Nat.reduceLT, Int.reduceEq, Int.reduceLT, Int.reduceLE, Int.reduceNeg, Nat.reduceLeDiff, if_true, if_false, ↓reduceIte, forall_const, implies_true, reduceCtorEq, forall_eq_or_imp, forall_eq, ne_eq, h0]) (by simp (maxSteps := 2000000) only [↓ctl, evl, val, valP, own, ↓ctlM, tys, Tryz.ntmps115, Tryz.results115, ↓V_convert, ↓V_bytes, stdl, cond_true, cond_false, Nat.reduceEqDiff, Nat.reduceAdd, Nat.reduceMul, Nat.reduceSub, Nat.reduceLT, Int.reduceEq, Int.reduceLT, Int.reduceLE, Int.reduceNeg, Nat.reduceLeDiff, if_true, if_false, ↓reduceIte, forall_const, implies_true, reduceCtorEq, forall_eq_or_imp, forall_eq, ne_eq]) trivial ?_
          simp (maxSteps := 2000000) only [↓ctl, evl, val, valP, own, ↓ctlM, tys, Tryz.ntmps115, Tryz.results115, ↓V_convert, ↓V_bytes, stdl, cond_true, cond_false, Nat.reduceEqDiff, Nat.reduceAdd, Nat.reduceMul, Nat.reduceSub, Nat.reduceLT, Int.reduceEq, Int.reduceLT, Int.reduceLE, Int.reduceNeg, Nat.reduceLeDiff, if_true, if_false, ↓reduceIte, forall_const, implies_true, reduceCtorEq, forall_eq_or_imp, forall_eq, ne_eq, dat, hlt, h0]
          refine VM_callI mixed (cap := []) (fun _ => c_CompareI 0 0) (by simp (maxSteps := 2000000) (contextual := true) only [↓ctl, evl, val, valP, own, ↓ctlM, tys, Tryz.ntmps115, Tryz.results115, ↓V_convert, ↓V_bytes, stdl, cond_true, cond_false, Nat.reduceEqDiff, Nat.reduceAdd, Nat.reduceMul, Nat.reduceSub, Nat.reduceLT, Int.reduceEq, Int.reduceLT, Int.reduceLE, Int.reduceNeg, Nat.reduceLeDiff, if_true, if_false, ↓reduceIte, forall_const, implies_true, reduceCtorEq, forall_eq_or_imp, forall_eq, ne_eq, h0]) (by simp (maxSteps := 2000000) only [↓ctl, evl, val, valP, own, ↓ctlM, tys, Tryz.ntmps115, Tryz.results115, ↓V_convert, ↓V_bytes, stdl, cond_true, cond_false, Nat.reduceEqDiff, Nat.reduceAdd, Nat.reduceMul, Nat.reduceSub, Nat.reduceLT, Int.reduceEq, Int.reduceLT, Int.reduceLE, Int.reduceNeg, Nat.reduceLeDiff, if_true, if_false, ↓reduceIte, forall_const, implies_true, reduceCtorEq, forall_eq_or_imp, forall_eq, ne_eq, h0]) (by simp (maxSteps := 2000000) only [↓ctl, evl, val, valP, own, ↓ctlM, tys, Tryz.ntmps115, Tryz.results115, ↓V_convert, ↓V_bytes, stdl, cond_true, cond_false, Nat.reduceEqDiff, Nat.reduceAdd, Nat.reduceMul, Nat.reduceSub, Nat.reduceLT, Int.reduceEq, Int.reduceLT, Int.reduceLE, Int.reduceNeg, Nat.reduceLeDiff, if_true, if_false, ↓reduceIte, forall_const, implies_true, reduceCtorEq, forall_eq_or_imp, forall_eq, ne_eq]) trivial ?_
          simp (maxSteps := 2000000) only [↓ctl, evl, val, valP, own, ↓ctlM, tys, Tryz.ntmps115, Tryz.results115, ↓V_convert, ↓V_bytes, stdl, cond_true, cond_false, Nat.reduceEqDiff, Nat.reduceAdd, Nat.reduceMul, Nat.reduceSub, Nat.reduceLT, Int.reduceEq, Int.reduceLT, Int.reduceLE, Int.reduceNeg, Nat.reduceLeDiff, if_true, if_false, ↓reduceIte, forall_const, implies_true, reduceCtorEq, forall_eq_or_imp, forall_eq, ne_eq, dat, h0, litChunk]
          refine VM_callI mixed (cap := []) (fun _ => c_Or 0 0) (by simp (maxSteps := 2000000) (contextual := true) only [↓ctl, evl, val, valP, own, ↓ctlM, tys, Tryz.ntmps115, Tryz.results115, ↓V_convert, ↓V_bytes, stdl, cond_true, cond_false, Nat.reduceEqDiff, Nat.reduceAdd, Nat.reduceMul, Nat.reduceSub, Nat.reduceLT, Int.reduceEq, Int.reduceLT, Int.reduceLE, Int.reduceNeg, Nat.reduceLeDiff, if_true, if_false, ↓reduceIte, forall_const, implies_true, reduceCtorEq, forall_eq_or_imp, forall_eq, ne_eq, h0]) (by simp (maxSteps := 2000000) only [↓ctl, evl, val, valP, own, ↓ctlM, tys, Tryz.ntmps115, Tryz.results115, ↓V_convert, ↓V_bytes, stdl, cond_true, cond_false, Nat.reduceEqDiff, Nat.reduceAdd, Nat.reduceMul, Nat.reduceSub, Nat.reduceLT, Int.reduceEq, Int.reduceLT, Int.reduceLE, Int.reduceNeg, Nat.reduceLeDiff, if_true, if_false, ↓reduceIte, forall_const, implies_true, reduceCtorEq, forall_eq_or_imp, forall_eq, ne_eq, h0]) (by simp (maxSteps := 2000000) only [↓ctl, evl, val, valP, own, ↓ctlM, tys, Tryz.ntmps115, Tryz.results115, ↓V_convert, ↓V_bytes, stdl, cond_true, cond_false, Nat.reduceEqDiff, Nat.reduceAdd, Nat.reduceMul, Nat.reduceSub, Nat.reduceLT, Int.reduceEq, Int.reduceLT, Int.reduceLE, Int.reduceNeg, Nat.reduceLeDiff, if_true, if_false, ↓reduceIte, forall_const, implies_true, reduceCtorEq, forall_eq_or_imp, forall_eq, ne_eq]) trivial ?_
          simp (maxSteps := 2000000) only [↓ctl, evl, val, valP, own, ↓ctlM, tys, Tryz.ntmps115, Tryz.results115, ↓V_convert, ↓V_bytes, stdl, cond_true, cond_false, Nat.reduceEqDiff, Nat.reduceAdd, Nat.reduceMul, Nat.reduceSub, Nat.reduceLT, Int.reduceEq, Int.reduceLT, Int.reduceLE, Int.reduceNeg, Nat.reduceLeDiff, if_true, if_false, ↓reduceIte, forall_const, implies_true, reduceCtorEq, forall_eq_or_imp, forall_eq, ne_eq, h0]
          refine V_backI ⟨i + 1, by omega, ?_⟩ (by show _ - (i + 1) < _; omega) (weakI ?_)
          · have hd : decide (i = 0) = true := by simp [hi0]
            rw [hx, hst, hok', hd]; grind
          · simp (maxSteps := 2000000) only [↓ctl, evl, val, valP, own, ↓ctlM, tys, Tryz.ntmps115, Tryz.results115, ↓V_convert, ↓V_bytes, stdl, cond_true, cond_false, Nat.reduceEqDiff, Nat.reduceAdd, Nat.reduceMul, Nat.reduceSub, Nat.reduceLT, Int.reduceEq, Int.reduceLT, Int.reduceLE, Int.reduceNeg, Nat.reduceLeDiff, if_true, if_false, ↓reduceIte, forall_const, implies_true, reduceCtorEq, forall_eq_or_imp, forall_eq, ne_eq]
            rw [wrap_id (by omega) (by omega)]
            rfl
      · have : entryOk (l.getD i default) = false := by unfold entryOk; grind
        unfold isAcl; grind
      · have hok' : entryOk (l.getD i default) = true := by unfold entryOk inR; grind
        refine VM_start mixed 21 (by kernel_rfl) (by kernel_rfl) trivial ?_
        by_cases h0 : (i : Int) > 0
        · have e4 : (0 : Int) ≤ i - 1 := by omega
          have e5 : (i : Int) - 1 < l.length := by omega
          simp (maxSteps := 2000000) only [↓ctl, evl, val, valP, own, ↓ctlM, tys, Tryz.ntmps115, Tryz.results115, ↓V_convert, ↓V_bytes, stdl, cond_true, cond_false, Nat.reduceEqDiff, Nat.reduceAdd, Nat.reduceMul, Nat.reduceSub, Nat.reduceLT, Int.reduceEq, Int.reduceLT, Int.reduceLE, Int.reduceNeg, Nat.reduceLeDiff, if_true, if_false, ↓reduceIte, forall_const, implies_true, reduceCtorEq, forall_eq_or_imp, forall_eq, ne_eq, dat, hlt, e1, e2, e3, e4, e5, h0]
          refine VM_callI mixed (cap := []) (fun _ => c_CompareI (l.getD (i - 1) default).tag (l.getD i default).tag) (by simp (maxSteps := 2000000) (contextual := true) only [↓ctl, evl, val, valP, own, ↓ctlM, tys, Tryz.ntmps115, Tryz.results115, ↓V_convert, ↓V_bytes, stdl, cond_true, cond_false, Nat.reduceEqDiff, Nat.reduceAdd, Nat.reduceMul, Nat.reduceSub, Nat.reduceLT, Int.reduceEq, Int.reduceLT, Int.reduceLE, Int.reduceNeg, Nat.reduceLeDiff, if_true, if_false, ↓reduceIte, forall_const, implies_true, reduceCtorEq, forall_eq_or_imp, forall_eq, ne_eq, h0]) (by simp (maxSteps := 2000000) only [↓ctl, evl, val, valP, own, ↓ctlM, tys, Tryz.ntmps115, Tryz.results115, ↓V_convert, ↓V_bytes, stdl, cond_true, cond_false, Nat.reduceEqDiff, Nat.reduceAdd, Nat.reduceMul, Nat.reduceSub, Nat.reduceLT, Int.reduceEq, Int.reduceLT, Int.reduceLE, Int.reduceNeg, Nat.reduceLeDiff, if_true, if_false, ↓reduceIte, forall_const, implies_true, reduceCtorEq, forall_eq_or_imp, forall_eq, ne_eq, h0]) (by simp (maxSteps := 2000000) only [↓ctl, evl, val, valP, own, ↓ctlM, tys, Tryz.ntmps115, Tryz.results115, ↓V_convert, ↓V_bytes, stdl, cond_true, cond_false, Nat.reduceEqDiff, Nat.reduceAdd, Nat.reduceMul, Nat.reduceSub, Nat.reduceLT, Int.reduceEq, Int.reduceLT, Int.reduceLE, Int.reduceNeg, Nat.reduceLeDiff, if_true, if_false, ↓reduceIte, forall_const, implies_true, reduceCtorEq, forall_eq_or_imp, forall_eq, ne_eq]) trivial ?_
          simp (maxSteps := 2000000) only [↓ctl, evl, val, valP, own, ↓ctlM, tys, Tryz.ntmps115, Tryz.results115, ↓V_convert, ↓V_bytes, stdl, cond_true, cond_false, Nat.reduceEqDiff, Nat.reduceAdd, Nat.reduceMul, Nat.reduceSub, Nat.reduceLT, Int.reduceEq, Int.reduceLT, Int.reduceLE, Int.reduceNeg, Nat.reduceLeDiff, if_true, if_false, ↓reduceIte, forall_const, implies_true, reduceCtorEq, forall_eq_or_imp, forall_eq, ne_eq, dat, hlt, e1, e2, e3, e4, e5, h0]
          refine VM_callI mixed (cap := []) (fun _ => c_CompareI (l.getD (i - 1) default).id (l.getD i default).id) (by simp (maxSteps := 2000000) (contextual := true) only [↓ctl, evl, val, valP, own, ↓ctlM, tys, Tryz.ntmps115, Tryz.results115, ↓V_convert, ↓V_bytes, stdl, cond_true, cond_false, Nat.reduceEqDiff, Nat.reduceAdd, Nat.reduceMul, Nat.reduceSub, Nat.reduceLT, Int.reduceEq, Int.reduceLT, Int.reduceLE, Int.reduceNeg, Nat.reduceLeDiff, if_true, if_false, ↓reduceIte, forall_const, implies_true, reduceCtorEq, forall_eq_or_imp, forall_eq, ne_eq, h0]) (by simp (maxSteps := 2000000) only [↓ctl, evl, val, valP, own, ↓ctlM, tys, Tryz.ntmps115, Tryz.results115, ↓V_convert, ↓V_bytes, stdl, cond_true, cond_false, Nat.reduceEqDiff, Nat.reduceAdd, Nat.reduceMul, Nat.reduceSub, Nat.reduceLT, Int.reduceEq, Int.reduceLT, Int.reduceLE, Int.reduceNeg, Nat.reduceLeDiff, if_true, if_false, ↓reduceIte, forall_const, implies_true, reduceCtorEq, forall_eq_or_imp, forall_eq, ne_eq, h0]) (by simp (maxSteps := 2000000) only [↓ctl, evl, val, valP, own, ↓ctlM, tys, Tryz.ntmps115, Tryz.results115, ↓V_convert, ↓V_bytes, stdl, cond_true, cond_false, Nat.reduceEqDiff, Nat.reduceAdd, Nat.reduceMul, Nat.reduceSub, Nat.reduceLT, Int.reduceEq, Int.reduceLT, Int.reduceLE, Int.reduceNeg, Nat.reduceLeDiff, if_true, if_false, ↓reduceIte, forall_const, implies_true, reduceCtorEq, forall_eq_or_imp, forall_eq, ne_eq]) trivial ?_
          simp (maxSteps := 2000000) only [↓ctl, evl, val, valP, own, ↓ctlM, tys, Tryz.ntmps115, Tryz.results115, ↓V_convert, ↓V_bytes, stdl, cond_true, cond_false, Nat.reduceEqDiff, Nat.reduceAdd, Nat.reduceMul, Nat.reduceSub, Nat.reduceLT, Int.reduceEq, Int.reduceLT, Int.reduceLE, Int.reduceNeg, Nat.reduceLeDiff, if_true, if_false, ↓reduceIte, forall_const, implies_true, reduceCtorEq, forall_eq_or_imp, forall_eq, ne_eq, dat, h0, litChunk]
          refine VM_callI mixed (cap := []) (fun _ => c_Or (cmpI (l.getD (i - 1) default).tag (l.getD i default).tag) (cmpI (l.getD (i - 1) default).id (l.getD i default).id)) (by simp (maxSteps := 2000000) (contextual := true) only [↓ctl, evl, val, valP, own, ↓ctlM, tys, Tryz.ntmps115, Tryz.results115, ↓V_convert, ↓V_bytes, stdl, cond_true, cond_false, Nat.reduceEqDiff, Nat.reduceAdd, Nat.reduceMul, Nat.reduceSub, Nat.reduceLT, Int.reduceEq, Int.reduceLT, Int.reduceLE, Int.reduceNeg, Nat.reduceLeDiff, if_true, if_false, ↓reduceIte, forall_const, implies_true, reduceCtorEq, forall_eq_or_imp, forall_eq, ne_eq, h0]) (by simp (maxSteps := 2000000) only [↓ctl, evl, val, valP, own, ↓ctlM, tys, Tryz.ntmps115, Tryz.results115, ↓V_convert, ↓V_bytes, stdl, cond_true, cond_false, Nat.reduceEqDiff, Nat.reduceAdd, Nat.reduceMul, Nat.reduceSub, Nat.reduceLT, Int.reduceEq, Int.reduceLT, Int.reduceLE, Int.reduceNeg, Nat.reduceLeDiff, if_true, if_false, ↓reduceIte, forall_const, implies_true, reduceCtorEq, forall_eq_or_imp, forall_eq, ne_eq, h0]) (by simp (maxSteps := 2000000) only [↓ctl, evl, val, valP, own, ↓ctlM, tys, Tryz.ntmps115, Tryz.results115, ↓V_convert, ↓V_bytes, stdl, cond_true, cond_false, Nat.reduceEqDiff, Nat.reduceAdd, Nat.reduceMul, Nat.reduceSub, Nat.reduceLT, Int.reduceEq, Int.reduceLT, Int.reduceLE, Int.reduceNeg, Nat.reduceLeDiff, if_true, if_false, ↓reduceIte, forall_const, implies_true, reduceCtorEq, forall_eq_or_imp, forall_eq, ne_eq]) trivial ?_
          simp (maxSteps := 2000000) only [↓ctl, evl, val, valP, own, ↓ctlM, tys, Tryz.ntmps115, Tryz.results115, ↓V_convert, ↓V_bytes, stdl, cond_true, cond_false, Nat.reduceEqDiff, Nat.reduceAdd, Nat.reduceMul, Nat.reduceSub, Nat.reduceLT, Int.reduceEq, Int.reduceLT, Int.reduceLE, Int.reduceNeg, Nat.reduceLeDiff, if_true, if_false, ↓reduceIte, forall_const, implies_true, reduceCtorEq, forall_eq_or_imp, forall_eq, ne_eq, h0]
          have hd : decide (i = 0) = false := by simp; omega
          have hcmp : ((if cmpI (l.getD (i - 1) default).tag (l.getD i default).tag = 0 then cmpI (l.getD (i - 1) default).id (l.getD i default).id else cmpI (l.getD (i - 1) default).tag (l.getD i default).tag) ≥ 0) ↔ aclLt (l.getD (i - 1) default) (l.getD i default) = false := by
            unfold cmpI aclLt; simp only [decide_eq_false_iff_not]; split <;> split <;> omega
          refine ⟨fun h => ?_, fun h => ?_⟩
          · rw [hcmp] at h
            rw [hd, h] at hst
            unfold isAcl; grind
          · rw [hcmp] at h
            refine V_backI ⟨i + 1, by omega, ?_⟩ (by show _ - (i + 1) < _; omega) (weakI ?_)
            · rw [hx, hst, hok']; grind
            · simp (maxSteps := 2000000) only [↓ctl, evl, val, valP, own, ↓ctlM, tys, Tryz.ntmps115, Tryz.results115, ↓V_convert, ↓V_bytes, stdl, cond_true, cond_false, Nat.reduceEqDiff, Nat.reduceAdd, Nat.reduceMul, Nat.reduceSub, Nat.reduceLT, Int.reduceEq, Int.reduceLT, Int.reduceLE, Int.reduceNeg, Nat.reduceLeDiff, if_true, if_false, ↓reduceIte, forall_const, implies_true, reduceCtorEq, forall_eq_or_imp, forall_eq, ne_eq]
              rw [wrap_id (by omega) (by omega)]
              rfl
        · have hi0 : i = 0 := by omega
          simp (maxSteps := 2000000) only [↓ctl, evl, val, valP, own, ↓ctlM, tys, Tryz.ntmps115, Tryz.results115, ↓V_convert, ↓V_bytes, stdl, cond_true, cond_false, Nat.reduceEqDiff, Nat.reduceAdd, Nat.reduceMul, Nat.reduceSub, Nat.reduceLT, Int.reduceEq, Int.reduceLT, Int.reduceLE, Int.reduceNeg, Nat.reduceLeDiff, if_true, if_false, ↓reduceIte, forall_const, implies_true, reduceCtorEq, forall_eq_or_imp, forall_eq, ne_eq, dat, hlt, h0]
          refine VM_callI mixed (cap := []) (fun _ => c_CompareI 0 0) (by simp (maxSteps := 2000000) (contextual := true) only [↓ctl, evl, val, valP, own, ↓ctlM, tys, Tryz.ntmps115, Tryz.results115, ↓V_convert, ↓V_bytes, stdl, cond_true, cond_false, Nat.reduceEqDiff, Nat.reduceAdd, Nat.reduceMul, Nat.reduceSub, Nat.reduceLT, Int.reduceEq, Int.reduceLT, Int.reduceLE, Int.reduceNeg, Nat.reduceLeDiff, if_true, if_false, ↓reduceIte, forall_const, implies_true, reduceCtorEq, forall_eq_or_imp, forall_eq, ne_eq, h0]) (by simp (maxSteps := 2000000) only [↓ctl, evl, val, valP, own, ↓ctlM, tys, Tryz.ntmps115, Tryz.results115, ↓V_convert, ↓V_bytes, stdl, cond_true, cond_false, Nat.reduceEqDiff, Nat.reduceAdd, Nat.reduceMul, Nat.reduceSub, Nat.reduceLT, Int.reduceEq, Int.reduceLT, Int.reduceLE, Int.reduceNeg, Nat.reduceLeDiff, if_true, if_false, ↓reduceIte, forall_const, implies_true, reduceCtorEq, forall_eq_or_imp, forall_eq, ne_eq, h0]) (by simp (maxSteps := 2000000) only [↓ctl, evl, val, valP, own, ↓ctlM, tys, Tryz.ntmps115, Tryz.results115, ↓V_convert, ↓V_bytes, stdl, cond_true, cond_false, Nat.reduceEqDiff, Nat.reduceAdd, Nat.reduceMul, Nat.reduceSub, Nat.reduceLT, Int.reduceEq, Int.reduceLT, Int.reduceLE, Int.reduceNeg, Nat.reduceLeDiff, if_true, if_false, ↓reduceIte, forall_const, implies_true, reduceCtorEq, forall_eq_or_imp, forall_eq, ne_eq]) trivial ?_
          simp (maxSteps := 2000000) only [↓ctl, evl, val, valP, own, ↓ctlM, tys, Tryz.ntmps115, Tryz.results115, ↓V_convert, ↓V_bytes, stdl, cond_true, cond_false, Nat.reduceEqDiff, Nat.reduceAdd, Nat.reduceMul, Nat.reduceSub, Nat.reduceLT, Int.reduceEq, Int.reduceLT, Int.reduceLE, Int.reduceNeg, Nat.reduceLeDiff, if_true, if_false, ↓reduceIte, forall_const, implies_true, reduceCtorEq, forall_eq_or_imp, forall_eq, ne_eq, dat, hlt, h0]
          refine VM_callI mixed (cap := []) (fun _ => c_CompareI 0 0) (by simp (maxSteps := 2000000) (contextual := true) only [↓ctl, evl, val, valP, own, ↓ctlM, tys, Tryz.ntmps115, Tryz.results115, ↓V_convert, ↓V_bytes, stdl, cond_true, cond_false, Nat.reduceEqDiff, Nat.reduceAdd, Nat.reduceMul, Nat.reduceSub, Nat.reduceLT, Int.reduceEq, Int.reduceLT, Int.reduceLE, Int.reduceNeg, Nat.reduceLeDiff, if_true, if_false, ↓reduceIte, forall_const, implies_true, reduceCtorEq, forall_eq_or_imp, forall_eq, ne_eq, h0]) (by simp (maxSteps := 2000000) only [↓ctl, evl, val, valP, own, ↓ctlM, tys, Tryz.ntmps115, Tryz.results115, ↓V_convert, ↓V_bytes, stdl, cond_true, cond_false, Nat.reduceEqDiff, Nat.reduceAdd, Nat.reduceMul, Nat.reduceSub, Nat.reduceLT, Int.reduceEq, Int.reduceLT, Int.reduceLE, Int.reduceNeg, Nat.reduceLeDiff, if_true, if_false, ↓reduceIte, forall_const, implies_true, reduceCtorEq, forall_eq_or_imp, forall_eq, ne_eq, h0]) (by simp (maxSteps := 2000000) only [↓ctl, evl, val, valP, own, ↓ctlM, tys, Tryz.ntmps115, Tryz.results115, ↓V_convert, ↓V_bytes, stdl, cond_true, cond_false, Nat.reduceEqDiff, Nat.reduceAdd, Nat.reduceMul, Nat.reduceSub, Nat.reduceLT, Int.reduceEq, Int.reduceLT, Int.reduceLE, Int.reduceNeg, Nat.reduceLeDiff, if_true, if_false, ↓reduceIte, forall_const, implies_true, reduceCtorEq, forall_eq_or_imp, forall_eq, ne_eq]) trivial ?_
          simp (maxSteps := 2000000) only [↓ctl, evl, val, valP, own, ↓ctlM, tys, Tryz.ntmps115, Tryz.results115, ↓V_convert, ↓V_bytes, stdl, cond_true, cond_false, Nat.reduceEqDiff, Nat.reduceAdd, Nat.reduceMul, Nat.reduceSub, Nat.reduceLT, Int.reduceEq, Int.reduceLT, Int.reduceLE, Int.reduceNeg, Nat.reduceLeDiff, if_true, if_false, ↓reduceIte, forall_const, implies_true, reduceCtorEq, forall_eq_or_imp, forall_eq, ne_eq, dat, h0, litChunk]
          refine VM_callI mixed (cap := []) (fun _ => c_Or 0 0) (by simp (maxSteps := 2000000) (contextual := true) only [↓ctl, evl, val, valP, own, ↓ctlM, tys, Tryz.ntmps115, Tryz.results115, ↓V_convert, ↓V_bytes, stdl, cond_true, cond_false, Nat.reduceEqDiff, Nat.reduceAdd, Nat.reduceMul, Nat.reduceSub, Nat.reduceLT, Int.reduceEq, Int.reduceLT, Int.reduceLE, Int.reduceNeg, Nat.reduceLeDiff, if_true, if_false, ↓reduceIte, forall_const, implies_true, reduceCtorEq, forall_eq_or_imp, forall_eq, ne_eq, h0]) (by simp (maxSteps := 2000000) only [↓ctl, evl, val, valP, own, ↓ctlM, tys, Tryz.ntmps115, Tryz.results115, ↓V_convert, ↓V_bytes, stdl, cond_true, cond_false, Nat.reduceEqDiff, Nat.reduceAdd, Nat.reduceMul, Nat.reduceSub, Nat.reduceLT, Int.reduceEq, Int.reduceLT, Int.reduceLE, Int.reduceNeg, Nat.reduceLeDiff, if_true, if_false, ↓reduceIte, forall_const, implies_true, reduceCtorEq, forall_eq_or_imp, forall_eq, ne_eq, h0]) (by simp (maxSteps := 2000000) only [↓ctl, evl, val, valP, own, ↓ctlM, tys, Tryz.ntmps115, Tryz.results115, ↓V_convert, ↓V_bytes, stdl, cond_true, cond_false, Nat.reduceEqDiff, Nat.reduceAdd, Nat.reduceMul, Nat.reduceSub, Nat.reduceLT, Int.reduceEq, Int.reduceLT, Int.reduceLE, Int.reduceNeg, Nat.reduceLeDiff, if_true, if_false, ↓reduceIte, forall_const, implies_true, reduceCtorEq, forall_eq_or_imp, forall_eq, ne_eq]) trivial ?_
          simp (maxSteps := 2000000) only [↓ctl, evl, val, valP, own, ↓ctlM, tys, Tryz.ntmps115, Tryz.results115, ↓V_convert, ↓V_bytes, stdl, cond_true, cond_false, Nat.reduceEqDiff, Nat.reduceAdd, Nat.reduceMul, Nat.reduceSub, Nat.reduceLT, Int.reduceEq, Int.reduceLT, Int.reduceLE, Int.reduceNeg, Nat.reduceLeDiff, if_true, if_false, ↓reduceIte, forall_const, implies_true, reduceCtorEq, forall_eq_or_imp, forall_eq, ne_eq, h0]
          refine V_backI ⟨i + 1, by omega, ?_⟩ (by show _ - (i + 1) < _; omega) (weakI ?_)
          · have hd : decide (i = 0) = true := by simp [hi0]
            rw [hx, hst, hok', hd]; grind
          · simp (maxSteps := 2000000) only [↓ctl, evl, val, valP, own, ↓ctlM, tys, Tryz.ntmps115, Tryz.results115, ↓V_convert, ↓V_bytes, stdl, cond_true, cond_false, Nat.reduceEqDiff, Nat.reduceAdd, Nat.reduceMul, Nat.reduceSub, Nat.reduceLT, Int.reduceEq, Int.reduceLT, Int.reduceLE, Int.reduceNeg, Nat.reduceLeDiff, if_true, if_false, ↓reduceIte, forall_const, implies_true, reduceCtorEq, forall_eq_or_imp, forall_eq, ne_eq]
            rw [wrap_id (by omega) (by omega)]
            rfl
      · have : entryOk (l.getD i default) = false := by unfold entryOk; grind
        unfold isAcl; grind
    · have hn : i = l.length := by omega
      have hx' := hx.trans (aclFrom_end hlt)
      by_cases h0 : l.length = 0
      · simp (maxSteps := 2000000) only [↓ctl, evl, val, valP, own, ↓ctlM, tys, Tryz.ntmps115, Tryz.results115, ↓V_convert, ↓V_bytes, stdl, cond_true, cond_false, Nat.reduceEqDiff, Nat.reduceAdd, Nat.reduceMul, Nat.reduceSub, Nat.reduceLT, Int.reduceEq, Int.reduceLT, Int.reduceLE, Int.reduceNeg, Nat.reduceLeDiff, if_true, if_false, ↓reduceIte, forall_const, implies_true, reduceCtorEq, forall_eq_or_imp, forall_eq, ne_eq, hlt, h0]
        simp [isAcl, hx', h0]
      have e1 : IntKind.i64.wrap ((l.length : Int) - 1) = l.length - 1 := wrap_id (by omega) (by omega)
      have e2 : ((l.length : Int) - 1).toNat = l.length - 1 := by omega
      have e3 : l.length - 1 < l.length := by omega
      simp (maxSteps := 2000000) only [↓ctl, evl, val, valP, own, ↓ctlM, tys, Tryz.ntmps115, Tryz.results115, ↓V_convert, ↓V_bytes, stdl, cond_true, cond_false, Nat.reduceEqDiff, Nat.reduceAdd, Nat.reduceMul, Nat.reduceSub, Nat.reduceLT, Int.reduceEq, Int.reduceLT, Int.reduceLE, Int.reduceNeg, Nat.reduceLeDiff, if_true, if_false, ↓reduceIte, forall_const, implies_true, reduceCtorEq, forall_eq_or_imp, forall_eq, ne_eq, dat, hlt, e1, e2, e3]
      refine ⟨fun h => ⟨h, by omega, by omega⟩, ?_⟩
      simp only [isAcl, hx', Bool.true_and]
      grind
end Go.Proofs.YtobnbajakenbeaaGreat


/- Contracts: numbers as bytes. -/
set_option linter.all false
set_option maxRecDepth 10000
namespace Go.Proofs.YtobnbajakenbeaaGreat
open Go Go.Eng

/-- The last w bytes of a number, the highest one first. -/
def beBytes (n : Nat) : Nat → List UInt8
  | 0 => []
  | w + 1 => beBytes (n / 256) w ++ [UInt8.ofNat (n % 256)]
theorem beBytes_length (w : Nat) : ∀ n, (beBytes n w).length = w := by
  induction w with
  | zero => intro n; rfl
  | succ w ih => intro n; simp [beBytes, ih]
def putNum (n : Int) (w : Nat) : List UInt8 := if 0 ≤ n ∧ n < 2 ^ (8 * w) then beBytes n.toNat w else []
theorem shl_one (w : Nat) (h : 1 ≤ w ∧ w ≤ 6) : shlV .i64 1 (IntKind.i64.wrap (8 * (w : Int))) = 2 ^ (8 * w) := by
  have : w = 1 ∨ w = 2 ∨ w = 3 ∨ w = 4 ∨ w = 5 ∨ w = 6 := by omega
  rcases this with rfl | rfl | rfl | rfl | rfl | rfl <;> decide
theorem wrap_u64 {x : Int} (h1 : 0 ≤ x) (h2 : x ≤ 9223372036854775807) : IntKind.u64.wrap x = x := by
  unfold IntKind.wrap
  simp only [IntKind.bits, IntKind.signed]
  simp
  omega
theorem set_rep (x : UInt8) (bs : List UInt8) : ∀ k, (List.replicate (k + 1) 0 ++ bs).set k x = List.replicate k 0 ++ x :: bs
  | 0 => rfl
  | k + 1 => by
    rw [List.replicate_succ, List.cons_append, List.set_cons_succ, set_rep x bs k]
    rfl
theorem set_rows (m : Nat) (bs : List UInt8) (k : Nat) : ((List.replicate (k + 1) 0 ++ bs).map byteRow).set k [.v (.int .u8 ((m : Int) % 256))] = (List.replicate k 0 ++ UInt8.ofNat (m % 256) :: bs).map byteRow := by
  have e : [Cell.v (.int .u8 ((m : Int) % 256))] = byteRow (UInt8.ofNat (m % 256)) := by
    simp only [byteRow]
    have : (UInt8.ofNat (m % 256)).toNat = m % 256 := by simp
    rw [this]; simp
  rw [e, ← List.map_set, set_rep]
theorem put_done (w : Nat) (bs : List UInt8) (h : bs.length = w) : (isBytes (List.take w (bs.map byteRow)) ∧ w = (List.take w (bs.map byteRow)).length) ∧ (List.take w (bs.map byteRow)).map rowByte = bs := by
  have e : List.take w (bs.map byteRow) = bs.map byteRow := List.take_of_length_le (by simp [h])
  rw [e]
  exact ⟨⟨⟨bs, rfl⟩, by simp [h]⟩, rowBytes_map bs⟩
theorem c_PutNumber (n : Int) (w : Nat) (hn : In64 n) (hw : 1 ≤ w ∧ w ≤ 6) : Gives Go.Proofs.Tryz.prog 97 [I n, I w] (str (putNum n w)) := by
  refine gives_of_V mixed Go.Proofs.Tryz.call97 Go.Proofs.Tryz.func97 rfl (by rw [Go.Proofs.Tryz.ntmps97]; simp) ?_
  have w1 : ¬ (w : Int) < 1 := by omega
  have w2 : ¬ (w : Int) > 6 := by omega
  have w3 : (0 : Int) ≤ w := by omega
  have w4 : (w : Int) ≤ 1099511627776 := by omega
  have w5 : (0 : Int) ≤ IntKind.i64.wrap (8 * (w : Int)) := by rw [wrap_id (by omega) (by omega)]; omega
  simp (maxSteps := 2000000) only [↓ctl, evl, val, valP, own, tys, Tryz.ntmps97, Tryz.results97, ↓V_convert, ↓V_bytes, stdl, cond_true, cond_false, Nat.reduceEqDiff, Nat.reduceAdd, Nat.reduceMul, Nat.reduceSub, Nat.reduceLT, Int.reduceEq, Int.reduceLT, Int.reduceLE, Int.reduceNeg, Nat.reduceLeDiff, if_true, if_false, ↓reduceIte, forall_const, implies_true, reduceCtorEq, forall_eq_or_imp, forall_eq, ne_eq, w1, w2, w3, w4, w5, shl_one w hw]
  refine ⟨fun h => ?_, fun h => ⟨Nat.le_refl _, ?_⟩⟩
  · unfold putNum; rw [if_neg (by omega)]
  have hbig : (2 : Int) ^ (8 * w) ≤ 281474976710656 := by
    have : w = 1 ∨ w = 2 ∨ w = 3 ∨ w = 4 ∨ w = 5 ∨ w = 6 := by omega
    rcases this with rfl | rfl | rfl | rfl | rfl | rfl <;> decide
  have hput : putNum n w = beBytes n.toNat w := by unfold putNum; rw [if_pos (by omega)]
  rw [hput]
  refine V_loopI mixed (ι := {p : Nat × Nat × List UInt8 // p.1 + p.2.2.length = w ∧ p.2.1 ≤ 9223372036854775807 ∧ beBytes n.toNat w = beBytes p.2.1 p.1 ++ p.2.2}) (fun p => ⟨[(0, true, I p.1.2.1), (5, true, .sl 0 1 0 w), (6, true, I ((p.1.1 : Int) - 1))], [(0, .row 5 1 ((List.replicate p.1.1 0 ++ p.1.2.2).map byteRow))], 1, 41⟩) (fun p => p.1.1) ⟨(w, n.toNat, []), by simp; omega⟩ ?_ ?_ ?_
  · refine weakI ?_
    simp (maxSteps := 2000000) only [↓ctl, evl, val, valP, own, tys, Tryz.ntmps97, Tryz.results97, ↓V_convert, ↓V_bytes, stdl, cond_true, cond_false, Nat.reduceEqDiff, Nat.reduceAdd, Nat.reduceMul, Nat.reduceSub, Nat.reduceLT, Int.reduceEq, Int.reduceLT, Int.reduceLE, Int.reduceNeg, Nat.reduceLeDiff, if_true, if_false, ↓reduceIte, forall_const, implies_true, reduceCtorEq, forall_eq_or_imp, forall_eq, ne_eq]
    refine ⟨⟨by omega, ?_⟩, ?_⟩
    · exact wrap_id (by omega) (by omega)
    · simp [byteRow]
  · trivial
  · rintro ⟨⟨j, m, bs⟩, hj, hm, hb⟩
    simp only at hj hm hb
    by_cases h0 : j = 0
    · have g1 : ¬ ((j : Int) - 1 ≥ 0) := by omega
      subst h0
      simp (maxSteps := 2000000) only [↓ctl, evl, val, valP, own, tys, Tryz.ntmps97, Tryz.results97, ↓V_convert, ↓V_bytes, stdl, cond_true, cond_false, Nat.reduceEqDiff, Nat.reduceAdd, Nat.reduceMul, Nat.reduceSub, Nat.reduceLT, Int.reduceEq, Int.reduceLT, Int.reduceLE, Int.reduceNeg, Nat.reduceLeDiff, if_true, if_false, ↓reduceIte, forall_const, implies_true, reduceCtorEq, forall_eq_or_imp, forall_eq, ne_eq, g1, List.replicate_zero]
      have := put_done w bs (by omega)
      refine ⟨this.1, ?_⟩
      rw [this.2, hb]; rfl
    · have f1 : ((j : Int) - 1) ≥ 0 := by omega
      have f2 : ((j : Int) - 1).toNat = j - 1 := by omega
      have f3 : (0 : Int) ≤ (j : Int) - 1 := by omega
      have f4 : (j : Int) - 1 < w := by omega
      have f5 : j - 1 < (List.replicate j (0 : UInt8) ++ bs).length := by simp; omega
      simp (maxSteps := 2000000) only [↓ctl, evl, val, valP, own, tys, Tryz.ntmps97, Tryz.results97, ↓V_convert, ↓V_bytes, stdl, cond_true, cond_false, Nat.reduceEqDiff, Nat.reduceAdd, Nat.reduceMul, Nat.reduceSub, Nat.reduceLT, Int.reduceEq, Int.reduceLT, Int.reduceLE, Int.reduceNeg, Nat.reduceLeDiff, if_true, if_false, ↓reduceIte, forall_const, implies_true, reduceCtorEq, forall_eq_or_imp, forall_eq, ne_eq, f1, f2, f3, f4, f5, byteRow]
      obtain ⟨k, rfl⟩ : ∃ k, j = k + 1 := ⟨j - 1, by omega⟩
      refine V_backI ⟨(k, m / 256, UInt8.ofNat (m % 256) :: bs), ?_⟩ (by show k < k + 1; omega) (weakI ?_)
      · simp only [List.length_cons]; refine ⟨by omega, by omega, ?_⟩
        rw [hb, beBytes]; simp
      · simp (maxSteps := 2000000) only [↓ctl, evl, val, valP, own, tys, Tryz.ntmps97, Tryz.results97, ↓V_convert, ↓V_bytes, stdl, cond_true, cond_false, Nat.reduceEqDiff, Nat.reduceAdd, Nat.reduceMul, Nat.reduceSub, Nat.reduceLT, Int.reduceEq, Int.reduceLT, Int.reduceLE, Int.reduceNeg, Nat.reduceLeDiff, if_true, if_false, ↓reduceIte, forall_const, implies_true, reduceCtorEq, forall_eq_or_imp, forall_eq, ne_eq]
        refine ⟨⟨?_, ?_⟩, ?_⟩
        · simp only [shrV]
          show (m : Int).fdiv (2 ^ 8) = _
          rw [Int.fdiv_eq_ediv_of_nonneg _ (by decide)]; simp
        · rw [show ((k + 1 : Nat) : Int) - 1 - 1 = k - 1 by omega]; exact wrap_id (by omega) (by omega)
        · rw [wrap_u8', Nat.add_sub_cancel, set_rows]
theorem d_PutNumber (n : Int) (w : Nat) (hn : In64 n) (hw : 1 ≤ w ∧ w ≤ 6) : Gives Go.Proofs.Tryz.prog 90 [I n, I w] (str (putNum n w)) := by
  refine gives_of_V mixed Go.Proofs.Tryz.call90 Go.Proofs.Tryz.func90 rfl (by rw [Go.Proofs.Tryz.ntmps90]; simp) ?_
  have w1 : ¬ (w : Int) < 1 := by omega
  have w2 : ¬ (w : Int) > 6 := by omega
  have w3 : (0 : Int) ≤ w := by omega
  have w4 : (w : Int) ≤ 1099511627776 := by omega
  have w5 : IntKind.u64.wrap (w : Int) = w := wrap_u64 (by omega) (by omega)
  have w6 : IntKind.u64.wrap (8 * (w : Int)) = IntKind.i64.wrap (8 * w) := by rw [wrap_id (by omega) (by omega), wrap_u64 (by omega) (by omega)]
  have w7 : (0 : Int) ≤ IntKind.i64.wrap (8 * (w : Int)) := by rw [wrap_id (by omega) (by omega)]; omega
  have w8 : inR (w : Int) 1 6 = true := by unfold inR; simp; omega
  simp (maxSteps := 2000000) only [↓ctl, evl, val, valP, own, tys, Tryz.ntmps90, Tryz.results90, ↓V_convert, ↓V_bytes, stdl, cond_true, cond_false, Nat.reduceEqDiff, Nat.reduceAdd, Nat.reduceMul, Nat.reduceSub, Nat.reduceLT, Int.reduceEq, Int.reduceLT, Int.reduceLE, Int.reduceNeg, Nat.reduceLeDiff, if_true, if_false, ↓reduceIte, forall_const, implies_true, reduceCtorEq, forall_eq_or_imp, forall_eq, ne_eq]
  refine V_callF mixed (cap := []) (fun _ => d_l01In w 1 6) (by simp (maxSteps := 2000000) (contextual := true) only [↓ctl, evl, val, valP, own, tys, Tryz.ntmps90, Tryz.results90, ↓V_convert, ↓V_bytes, stdl, cond_true, cond_false, Nat.reduceEqDiff, Nat.reduceAdd, Nat.reduceMul, Nat.reduceSub, Nat.reduceLT, Int.reduceEq, Int.reduceLT, Int.reduceLE, Int.reduceNeg, Nat.reduceLeDiff, if_true, if_false, ↓reduceIte, forall_const, implies_true, reduceCtorEq, forall_eq_or_imp, forall_eq, ne_eq]) (by simp (maxSteps := 2000000) (contextual := true) only [↓ctl, evl, val, valP, own, tys, Tryz.ntmps90, Tryz.results90, ↓V_convert, ↓V_bytes, stdl, cond_true, cond_false, Nat.reduceEqDiff, Nat.reduceAdd, Nat.reduceMul, Nat.reduceSub, Nat.reduceLT, Int.reduceEq, Int.reduceLT, Int.reduceLE, Int.reduceNeg, Nat.reduceLeDiff, if_true, if_false, ↓reduceIte, forall_const, implies_true, reduceCtorEq, forall_eq_or_imp, forall_eq, ne_eq]) (by simp (maxSteps := 2000000) (contextual := true) only [↓ctl, evl, val, valP, own, tys, Tryz.ntmps90, Tryz.results90, ↓V_convert, ↓V_bytes, stdl, cond_true, cond_false, Nat.reduceEqDiff, Nat.reduceAdd, Nat.reduceMul, Nat.reduceSub, Nat.reduceLT, Int.reduceEq, Int.reduceLT, Int.reduceLE, Int.reduceNeg, Nat.reduceLeDiff, if_true, if_false, ↓reduceIte, forall_const, implies_true, reduceCtorEq, forall_eq_or_imp, forall_eq, ne_eq]) trivial ?_
  simp (maxSteps := 2000000) only [↓ctl, evl, val, valP, own, tys, Tryz.ntmps90, Tryz.results90, ↓V_convert, ↓V_bytes, stdl, cond_true, cond_false, Nat.reduceEqDiff, Nat.reduceAdd, Nat.reduceMul, Nat.reduceSub, Nat.reduceLT, Int.reduceEq, Int.reduceLT, Int.reduceLE, Int.reduceNeg, Nat.reduceLeDiff, if_true, if_false, ↓reduceIte, forall_const, implies_true, reduceCtorEq, forall_eq_or_imp, forall_eq, ne_eq, w3, w4, w5, w6, w7, w8, shl_one w hw]
  refine ⟨fun h => ?_, fun h => ⟨Nat.le_refl _, ?_⟩⟩
  · unfold putNum; rw [if_neg (by omega)]
  have hbig : (2 : Int) ^ (8 * w) ≤ 281474976710656 := by
    have : w = 1 ∨ w = 2 ∨ w = 3 ∨ w = 4 ∨ w = 5 ∨ w = 6 := by omega
    rcases this with rfl | rfl | rfl | rfl | rfl | rfl <;> decide
  have hput : putNum n w = beBytes n.toNat w := by unfold putNum; rw [if_pos (by omega)]
  rw [hput]
  refine V_loopI mixed (ι := {p : Nat × Nat × List UInt8 // p.1 + p.2.2.length = w ∧ p.2.1 ≤ 9223372036854775807 ∧ beBytes n.toNat w = beBytes p.2.1 p.1 ++ p.2.2}) (fun p => ⟨[(0, true, I p.1.2.1), (5, true, .sl 0 1 0 w), (6, true, I ((p.1.1 : Int) - 1))], [(0, .row 5 1 ((List.replicate p.1.1 0 ++ p.1.2.2).map byteRow))], 1, 40⟩) (fun p => p.1.1) ⟨(w, n.toNat, []), by simp; omega⟩ ?_ ?_ ?_
  · refine weakI ?_
    simp (maxSteps := 2000000) only [↓ctl, evl, val, valP, own, tys, Tryz.ntmps90, Tryz.results90, ↓V_convert, ↓V_bytes, stdl, cond_true, cond_false, Nat.reduceEqDiff, Nat.reduceAdd, Nat.reduceMul, Nat.reduceSub, Nat.reduceLT, Int.reduceEq, Int.reduceLT, Int.reduceLE, Int.reduceNeg, Nat.reduceLeDiff, if_true, if_false, ↓reduceIte, forall_const, implies_true, reduceCtorEq, forall_eq_or_imp, forall_eq, ne_eq]
    refine ⟨⟨by omega, ?_⟩, ?_⟩
    · exact wrap_id (by omega) (by omega)
    · simp [byteRow]
  · trivial
  · rintro ⟨⟨j, m, bs⟩, hj, hm, hb⟩
    simp only at hj hm hb
    by_cases h0 : j = 0
    · have g1 : ¬ ((j : Int) - 1 ≥ 0) := by omega
      subst h0
      simp (maxSteps := 2000000) only [↓ctl, evl, val, valP, own, tys, Tryz.ntmps90, Tryz.results90, ↓V_convert, ↓V_bytes, stdl, cond_true, cond_false, Nat.reduceEqDiff, Nat.reduceAdd, Nat.reduceMul, Nat.reduceSub, Nat.reduceLT, Int.reduceEq, Int.reduceLT, Int.reduceLE, Int.reduceNeg, Nat.reduceLeDiff, if_true, if_false, ↓reduceIte, forall_const, implies_true, reduceCtorEq, forall_eq_or_imp, forall_eq, ne_eq, g1, List.replicate_zero]
      have := put_done w bs (by omega)
      refine ⟨this.1, ?_⟩
      rw [this.2, hb]; rfl
    · have f1 : ((j : Int) - 1) ≥ 0 := by omega
      have f2 : ((j : Int) - 1).toNat = j - 1 := by omega
      have f3 : (0 : Int) ≤ (j : Int) - 1 := by omega
      have f4 : (j : Int) - 1 < w := by omega
      have f5 : j - 1 < (List.replicate j (0 : UInt8) ++ bs).length := by simp; omega
      simp (maxSteps := 2000000) only [↓ctl, evl, val, valP, own, tys, Tryz.ntmps90, Tryz.results90, ↓V_convert, ↓V_bytes, stdl, cond_true, cond_false, Nat.reduceEqDiff, Nat.reduceAdd, Nat.reduceMul, Nat.reduceSub, Nat.reduceLT, Int.reduceEq, Int.reduceLT, Int.reduceLE, Int.reduceNeg, Nat.reduceLeDiff, if_true, if_false, ↓reduceIte, forall_const, implies_true, reduceCtorEq, forall_eq_or_imp, forall_eq, ne_eq, f1, f2, f3, f4, f5, byteRow]
      obtain ⟨k, rfl⟩ : ∃ k, j = k + 1 := ⟨j - 1, by omega⟩
      refine V_backI ⟨(k, m / 256, UInt8.ofNat (m % 256) :: bs), ?_⟩ (by show k < k + 1; omega) (weakI ?_)
      · simp only [List.length_cons]; refine ⟨by omega, by omega, ?_⟩
        rw [hb, beBytes]; simp
      · simp (maxSteps := 2000000) only [↓ctl, evl, val, valP, own, tys, Tryz.ntmps90, Tryz.results90, ↓V_convert, ↓V_bytes, stdl, cond_true, cond_false, Nat.reduceEqDiff, Nat.reduceAdd, Nat.reduceMul, Nat.reduceSub, Nat.reduceLT, Int.reduceEq, Int.reduceLT, Int.reduceLE, Int.reduceNeg, Nat.reduceLeDiff, if_true, if_false, ↓reduceIte, forall_const, implies_true, reduceCtorEq, forall_eq_or_imp, forall_eq, ne_eq]
        refine ⟨⟨?_, ?_⟩, ?_⟩
        · rw [quoV_pos (by omega) (by omega) (by omega)]; simp
        · rw [show ((k + 1 : Nat) : Int) - 1 - 1 = k - 1 by omega]; exact wrap_id (by omega) (by omega)
        · rw [wrap_u8', remV_pos (by omega), Int.emod_emod, Nat.add_sub_cancel, set_rows]
end Go.Proofs.YtobnbajakenbeaaGreat


/- Contracts: padding. -/
set_option linter.all false
set_option maxRecDepth 10000
namespace Go.Proofs.YtobnbajakenbeaaGreat
open Go Go.Eng

def padTo (s : List UInt8) (n : Nat) : List UInt8 := s ++ List.replicate (n - s.length) 0
theorem d_PadTo (s : List UInt8) (n : Nat) (hs : s.length ≤ 1048576) (hn : n ≤ 100000) : Gives Go.Proofs.Tryz.prog 54 [Sx s, I n] (str (padTo s n)) := by
  refine gives_of_V mixed Go.Proofs.Tryz.call54 Go.Proofs.Tryz.func54 rfl (by rw [Go.Proofs.Tryz.ntmps54]; simp) ?_
  have n1 : ¬ (n : Int) > 100000 := by omega
  simp (maxSteps := 2000000) only [↓ctl, evl, val, valP, own, app, tys, Tryz.ntmps54, Tryz.results54, ↓V_convert, ↓V_bytes, stdl, cond_true, cond_false, Nat.reduceEqDiff, Nat.reduceAdd, Nat.reduceMul, Nat.reduceSub, Nat.reduceLT, Int.reduceEq, Int.reduceLT, Int.reduceLE, Int.reduceNeg, Nat.reduceLeDiff, if_true, if_false, ↓reduceIte, forall_const, implies_true, reduceCtorEq, forall_eq_or_imp, forall_eq, ne_eq, n1]
  refine V_loopI mixed (ι := {k : Nat // k ≤ n - s.length}) (fun k => ⟨[(1, true, I n), (5, true, .sl 0 1 0 (s.length + k.1))], [(0, .row 5 1 ((s ++ List.replicate k.1 0).map byteRow))], 1, 19⟩) (fun k => n - s.length - k.1) ⟨0, by omega⟩ ?_ ?_ ?_
  · refine weakI ?_
    simp (maxSteps := 2000000) only [↓ctl, evl, val, valP, own, app, tys, Tryz.ntmps54, Tryz.results54, ↓V_convert, ↓V_bytes, stdl, cond_true, cond_false, Nat.reduceEqDiff, Nat.reduceAdd, Nat.reduceMul, Nat.reduceSub, Nat.reduceLT, Int.reduceEq, Int.reduceLT, Int.reduceLE, Int.reduceNeg, Nat.reduceLeDiff, if_true, if_false, ↓reduceIte, forall_const, implies_true, reduceCtorEq, forall_eq_or_imp, forall_eq, ne_eq]
    simp
  · trivial
  · rintro ⟨k, hk⟩
    have hlen : (s ++ List.replicate k (0 : UInt8)).length = s.length + k := by simp
    by_cases hlt : ((s.length + k : Nat) : Int) < n
    · simp (maxSteps := 2000000) only [↓ctl, evl, val, valP, own, app, tys, Tryz.ntmps54, Tryz.results54, ↓V_convert, ↓V_bytes, stdl, cond_true, cond_false, Nat.reduceEqDiff, Nat.reduceAdd, Nat.reduceMul, Nat.reduceSub, Nat.reduceLT, Int.reduceEq, Int.reduceLT, Int.reduceLE, Int.reduceNeg, Nat.reduceLeDiff, if_true, if_false, ↓reduceIte, forall_const, implies_true, reduceCtorEq, forall_eq_or_imp, forall_eq, ne_eq, hlt]
      refine ⟨⟨by omega, by omega⟩, V_backI ⟨k + 1, by omega⟩ (by show _ - (k + 1) < _; omega) (weakI ?_)⟩
      simp (maxSteps := 2000000) only [↓ctl, evl, val, valP, own, app, tys, Tryz.ntmps54, Tryz.results54, ↓V_convert, ↓V_bytes, stdl, cond_true, cond_false, Nat.reduceEqDiff, Nat.reduceAdd, Nat.reduceMul, Nat.reduceSub, Nat.reduceLT, Int.reduceEq, Int.reduceLT, Int.reduceLE, Int.reduceNeg, Nat.reduceLeDiff, if_true, if_false, ↓reduceIte, forall_const, implies_true, reduceCtorEq, forall_eq_or_imp, forall_eq, ne_eq]
      refine ⟨rfl, ?_⟩
      have e : List.take (s.length + k) (List.map byteRow (s ++ List.replicate k 0)) = List.map byteRow (s ++ List.replicate k 0) := List.take_of_length_le (by simp)
      rw [e, List.replicate_succ', ← List.append_assoc, List.map_append (l₁ := s ++ List.replicate k 0)]
      rfl
    · simp (maxSteps := 2000000) only [↓ctl, evl, val, valP, own, app, tys, Tryz.ntmps54, Tryz.results54, ↓V_convert, ↓V_bytes, stdl, cond_true, cond_false, Nat.reduceEqDiff, Nat.reduceAdd, Nat.reduceMul, Nat.reduceSub, Nat.reduceLT, Int.reduceEq, Int.reduceLT, Int.reduceLE, Int.reduceNeg, Nat.reduceLeDiff, if_true, if_false, ↓reduceIte, forall_const, implies_true, reduceCtorEq, forall_eq_or_imp, forall_eq, ne_eq, hlt]
      have := put_done (s.length + k) (s ++ List.replicate k 0) hlen
      refine ⟨this.1, ?_⟩
      rw [this.2]
      have : n - s.length = k := by omega
      unfold padTo; rw [this]
end Go.Proofs.YtobnbajakenbeaaGreat


/- Contracts: padding, the program's. -/
set_option linter.all false
set_option maxRecDepth 10000
namespace Go.Proofs.YtobnbajakenbeaaGreat
open Go Go.Eng

theorem rep0 : ∀ k, Lib.repeatL [(0 : UInt8)] k = List.replicate k 0
  | 0 => by simp [Lib.repeatL]
  | k + 1 => by
    have := rep0 k
    simp [Lib.repeatL, List.replicate_succ] at *
    try exact this
theorem c_Repeat0 (k : Nat) (hk : k ≤ 1048576) : Gives Go.Proofs.Tryz.prog 117 [Sx [0], I k] (str (List.replicate k 0)) := by
  refine ⟨Go.Proofs.Tryz.call117, fun r w us hr hx => ?_⟩
  simp only [Oks, ok_v] at hx
  obtain ⟨u, vs, rfl, rfl, u2, vs2, rfl, rfl, rfl⟩ := hx
  have := Go.Proofs.Tryz.strings_Repeat ⟨#[0]⟩ k w (by omega) (by simp [ByteArray.size]; omega)
  refine this.mono fun e w' ⟨h1, h2⟩ => ?_
  have e2 : (Value.string { data := (Lib.repeatL ({ data := #[0] } : ByteArray).data.toList k).toArray }) = str (List.replicate k 0) := by
    rw [← rep0 k]; rfl
  rw [e2] at h1
  exact ⟨h1, h2⟩
theorem c_PadTo (s : List UInt8) (n : Nat) (hs : s.length ≤ 1048576) (hn : n ≤ 100000) : Gives Go.Proofs.Tryz.prog 98 [Sx s, I n] (str (padTo s n)) := by
  refine gives_of_V mixed Go.Proofs.Tryz.call98 Go.Proofs.Tryz.func98 rfl (by rw [Go.Proofs.Tryz.ntmps98]; simp) ?_
  have n1 : ¬ (n : Int) > 100000 := by omega
  simp (maxSteps := 2000000) only [↓ctl, evl, val, valP, own, tys, Tryz.ntmps98, Tryz.results98, ↓V_convert, ↓V_bytes, stdl, cond_true, cond_false, Nat.reduceEqDiff, Nat.reduceAdd, Nat.reduceMul, Nat.reduceSub, Nat.reduceLT, Int.reduceEq, Int.reduceLT, Int.reduceLE, Int.reduceNeg, Nat.reduceLeDiff, if_true, if_false, ↓reduceIte, forall_const, implies_true, reduceCtorEq, forall_eq_or_imp, forall_eq, ne_eq, n1]
  refine ⟨fun h => ?_, fun h => ?_⟩
  · have : n - s.length = 0 := by omega
    unfold padTo; rw [this]; simp
  have e : IntKind.i64.wrap ((n : Int) - s.length) = ((n - s.length : Nat) : Int) := by rw [wrap_id (by omega) (by omega)]; omega
  rw [e]
  refine V_callF mixed (cap := []) (fun _ => c_Repeat0 (n - s.length) (by omega)) (by simp (maxSteps := 2000000) (contextual := true) only [↓ctl, evl, val, valP, own, tys, Tryz.ntmps98, Tryz.results98, ↓V_convert, ↓V_bytes, stdl, cond_true, cond_false, Nat.reduceEqDiff, Nat.reduceAdd, Nat.reduceMul, Nat.reduceSub, Nat.reduceLT, Int.reduceEq, Int.reduceLT, Int.reduceLE, Int.reduceNeg, Nat.reduceLeDiff, if_true, if_false, ↓reduceIte, forall_const, implies_true, reduceCtorEq, forall_eq_or_imp, forall_eq, ne_eq]) (by simp (maxSteps := 2000000) (contextual := true) only [↓ctl, evl, val, valP, own, tys, Tryz.ntmps98, Tryz.results98, ↓V_convert, ↓V_bytes, stdl, cond_true, cond_false, Nat.reduceEqDiff, Nat.reduceAdd, Nat.reduceMul, Nat.reduceSub, Nat.reduceLT, Int.reduceEq, Int.reduceLT, Int.reduceLE, Int.reduceNeg, Nat.reduceLeDiff, if_true, if_false, ↓reduceIte, forall_const, implies_true, reduceCtorEq, forall_eq_or_imp, forall_eq, ne_eq]) (by simp (maxSteps := 2000000) (contextual := true) only [↓ctl, evl, val, valP, own, tys, Tryz.ntmps98, Tryz.results98, ↓V_convert, ↓V_bytes, stdl, cond_true, cond_false, Nat.reduceEqDiff, Nat.reduceAdd, Nat.reduceMul, Nat.reduceSub, Nat.reduceLT, Int.reduceEq, Int.reduceLT, Int.reduceLE, Int.reduceNeg, Nat.reduceLeDiff, if_true, if_false, ↓reduceIte, forall_const, implies_true, reduceCtorEq, forall_eq_or_imp, forall_eq, ne_eq]) trivial ?_
  simp (maxSteps := 2000000) only [↓ctl, evl, val, valP, own, tys, Tryz.ntmps98, Tryz.results98, ↓V_convert, ↓V_bytes, stdl, cond_true, cond_false, Nat.reduceEqDiff, Nat.reduceAdd, Nat.reduceMul, Nat.reduceSub, Nat.reduceLT, Int.reduceEq, Int.reduceLT, Int.reduceLE, Int.reduceNeg, Nat.reduceLeDiff, if_true, if_false, ↓reduceIte, forall_const, implies_true, reduceCtorEq, forall_eq_or_imp, forall_eq, ne_eq]
  refine ⟨?_, rfl⟩
  simp; omega
end Go.Proofs.YtobnbajakenbeaaGreat


/- Contracts: cutting into pieces. -/
set_option linter.all false
set_option maxRecDepth 10000
namespace Go.Proofs.YtobnbajakenbeaaGreat
open Go Go.Eng

def cuts (n : Nat) (s : List UInt8) : List (List UInt8) := if h : s.length = 0 ∨ n = 0 then [] else s.take n :: cuts n (s.drop n)
termination_by s.length
decreasing_by simp only [List.length_drop]; omega
theorem cuts_nil (n : Nat) : cuts n [] = [] := by unfold cuts; simp
theorem cuts_step {n : Nat} {s : List UInt8} (h : 0 < s.length) (hn : 0 < n) : cuts n s = s.take n :: cuts n (s.drop n) := by
  rw [cuts]; rw [dif_neg (by omega)]
theorem c_zeros (n : Nat) (hn : n ≤ 1048576) : Gives Go.Proofs.Tryz.prog 62 [I n] (str (List.replicate n 0)) := by
  refine gives_of_V mixed Go.Proofs.Tryz.call62 Go.Proofs.Tryz.func62 rfl (by rw [Go.Proofs.Tryz.ntmps62]; simp) ?_
  have n1 : (0 : Int) ≤ n := by omega
  have n2 : (n : Int) ≤ 1099511627776 := by omega
  simp (maxSteps := 2000000) only [↓ctl, evl, val, valP, own, app, tys, Tryz.ntmps62, Tryz.results62, ↓V_convert, ↓V_bytes, stdl, cond_true, cond_false, Nat.reduceEqDiff, Nat.reduceAdd, Nat.reduceMul, Nat.reduceSub, Nat.reduceLT, Int.reduceEq, Int.reduceLT, Int.reduceLE, Int.reduceNeg, Nat.reduceLeDiff, if_true, if_false, ↓reduceIte, forall_const, implies_true, reduceCtorEq, forall_eq_or_imp, forall_eq, ne_eq, n1, n2]
  have e : List.replicate n [Cell.v (Value.int IntKind.u8 0)] = (List.replicate n (0 : UInt8)).map byteRow := by simp [byteRow]
  rw [e]
  have := put_done n (List.replicate n 0) (by simp)
  refine ⟨Nat.le_refl _, this.1, ?_⟩
  rw [this.2]
theorem take_strs (acc : List (List UInt8)) (x : List UInt8) : List.take acc.length (acc.map strRow) ++ [[.v (str x)]] = (acc ++ [x]).map strRow := by
  rw [List.take_of_length_le (by simp)]; simp [strRow]
theorem c_CutAll (s : List UInt8) (n : Nat) (hs : s.length ≤ 1048576) (hn : 1 ≤ n ∧ n ≤ 1000) : Reads Go.Proofs.Tryz.prog 63 [Sx s, I n] (.sl 0 1 0 (cuts n s).length) [(0, .row 9 1 ((cuts n s).map strRow))] 1 := by
  refine reads_of_V mixed Go.Proofs.Tryz.call63 Go.Proofs.Tryz.func63 rfl (by rw [Go.Proofs.Tryz.ntmps63]; simp) ?_
  have n1 : ¬ (n : Int) < 1 := by omega
  have n2 : ¬ (n : Int) > 1000 := by omega
  simp (maxSteps := 2000000) only [↓ctl, evl, val, valP, own, app, tys, Tryz.ntmps63, Tryz.results63, ↓V_convert, ↓V_bytes, stdl, cond_true, cond_false, Nat.reduceEqDiff, Nat.reduceAdd, Nat.reduceMul, Nat.reduceSub, Nat.reduceLT, Int.reduceEq, Int.reduceLT, Int.reduceLE, Int.reduceNeg, Nat.reduceLeDiff, if_true, if_false, ↓reduceIte, forall_const, implies_true, reduceCtorEq, forall_eq_or_imp, forall_eq, ne_eq, n1, n2]
  refine V_loopI mixed (ι := {p : List UInt8 × List (List UInt8) // p.1.length ≤ s.length ∧ p.2.length + p.1.length ≤ s.length ∧ cuts n s = p.2 ++ cuts n p.1}) (fun p => ⟨[(0, true, Sx p.1.1), (1, true, I n), (5, true, .sl 0 1 0 p.1.2.length)], [(0, .row 9 1 (p.1.2.map strRow))], 1, 31⟩) (fun p => p.1.1.length) ⟨(s, []), by simp⟩ ?_ ?_ ?_
  · refine weakI ?_
    simp (maxSteps := 2000000) only [↓ctl, evl, val, valP, own, app, tys, Tryz.ntmps63, Tryz.results63, ↓V_convert, ↓V_bytes, stdl, cond_true, cond_false, Nat.reduceEqDiff, Nat.reduceAdd, Nat.reduceMul, Nat.reduceSub, Nat.reduceLT, Int.reduceEq, Int.reduceLT, Int.reduceLE, Int.reduceNeg, Nat.reduceLeDiff, if_true, if_false, ↓reduceIte, forall_const, implies_true, reduceCtorEq, forall_eq_or_imp, forall_eq, ne_eq]
  · trivial
  · rintro ⟨⟨r, acc⟩, h1, h2, h3⟩
    simp only at h1 h2 h3
    by_cases hlt : (r.length : Int) > 0
    · have hm : (if r.length < n then (r.length : Int) else n) = ((min n r.length : Nat) : Int) := by split <;> omega
      have m1 : (0 : Int) ≤ (min n r.length : Nat) := by omega
      have m2 : ((min n r.length : Nat) : Int) ≤ r.length := by omega
      simp (maxSteps := 2000000) only [↓ctl, evl, val, valP, own, app, tys, Tryz.ntmps63, Tryz.results63, ↓V_convert, ↓V_bytes, stdl, cond_true, cond_false, Nat.reduceEqDiff, Nat.reduceAdd, Nat.reduceMul, Nat.reduceSub, Nat.reduceLT, Int.reduceEq, Int.reduceLT, Int.reduceLE, Int.reduceNeg, Nat.reduceLeDiff, if_true, if_false, ↓reduceIte, forall_const, implies_true, reduceCtorEq, forall_eq_or_imp, forall_eq, ne_eq, hlt, hm, m1, m2]
      have p1 : List.take (r.length - min n r.length) (List.drop (min n r.length) r) = r.drop n := by
        rw [List.take_of_length_le (by simp)]
        by_cases hc : n ≤ r.length
        · rw [Nat.min_eq_left hc]
        · rw [Nat.min_eq_right (by omega), List.drop_of_length_le (by omega), List.drop_of_length_le (by omega)]
      have p2 : List.take (min n r.length - 0) r = r.take n := by
        rw [Nat.sub_zero]
        by_cases hc : n ≤ r.length
        · rw [Nat.min_eq_left hc]
        · rw [Nat.min_eq_right (by omega), List.take_of_length_le (by omega), List.take_of_length_le (by omega)]
      rw [p1, p2, take_strs]
      refine ⟨by omega, ⟨by omega, by omega⟩, by omega, V_backI ⟨(r.drop n, acc ++ [r.take n]), ?_⟩ (by show (r.drop n).length < r.length; rw [List.length_drop]; omega) (weakI ?_)⟩
      · simp only [List.length_drop, List.length_append, List.length_cons, List.length_nil]
        refine ⟨by omega, by omega, ?_⟩
        rw [h3, cuts_step (s := r) (by omega) (by omega), List.append_assoc]; rfl
      · simp (maxSteps := 2000000) only [↓ctl, evl, val, valP, own, app, tys, Tryz.ntmps63, Tryz.results63, ↓V_convert, ↓V_bytes, stdl, cond_true, cond_false, Nat.reduceEqDiff, Nat.reduceAdd, Nat.reduceMul, Nat.reduceSub, Nat.reduceLT, Int.reduceEq, Int.reduceLT, Int.reduceLE, Int.reduceNeg, Nat.reduceLeDiff, if_true, if_false, ↓reduceIte, forall_const, implies_true, reduceCtorEq, forall_eq_or_imp, forall_eq, ne_eq, List.length_append]
    · simp (maxSteps := 2000000) only [↓ctl, evl, val, valP, own, app, tys, Tryz.ntmps63, Tryz.results63, ↓V_convert, ↓V_bytes, stdl, cond_true, cond_false, Nat.reduceEqDiff, Nat.reduceAdd, Nat.reduceMul, Nat.reduceSub, Nat.reduceLT, Int.reduceEq, Int.reduceLT, Int.reduceLE, Int.reduceNeg, Nat.reduceLeDiff, if_true, if_false, ↓reduceIte, forall_const, implies_true, reduceCtorEq, forall_eq_or_imp, forall_eq, ne_eq, hlt]
      have hr : r = [] := List.eq_nil_of_length_eq_zero (by omega)
      subst hr
      rw [cuts_nil, List.append_nil] at h3
      rw [h3]; exact ⟨rfl, rfl⟩
theorem d_CutAll (s : List UInt8) (n : Nat) (hs : s.length ≤ 1048576) (hn : 1 ≤ n ∧ n ≤ 1000) : Reads Go.Proofs.Tryz.prog 55 [Sx s, I n] (.sl 0 1 0 (cuts n s).length) [(0, .row 9 1 ((cuts n s).map strRow))] 1 := by
  refine reads_of_V mixed Go.Proofs.Tryz.call55 Go.Proofs.Tryz.func55 rfl (by rw [Go.Proofs.Tryz.ntmps55]; simp) ?_
  have n1 : inR (n : Int) 1 1000 = true := by unfold inR; simp; omega
  have n2 : (0 : Int) ≤ n := by omega
  simp (maxSteps := 2000000) only [↓ctl, evl, val, valP, own, app, tys, Tryz.ntmps55, Tryz.results55, ↓V_convert, ↓V_bytes, stdl, cond_true, cond_false, Nat.reduceEqDiff, Nat.reduceAdd, Nat.reduceMul, Nat.reduceSub, Nat.reduceLT, Int.reduceEq, Int.reduceLT, Int.reduceLE, Int.reduceNeg, Nat.reduceLeDiff, if_true, if_false, ↓reduceIte, forall_const, implies_true, reduceCtorEq, forall_eq_or_imp, forall_eq, ne_eq]
  refine V_callF mixed (cap := []) (fun _ => d_l01In n 1 1000) (by simp (maxSteps := 2000000) (contextual := true) only [↓ctl, evl, val, valP, own, app, tys, Tryz.ntmps55, Tryz.results55, ↓V_convert, ↓V_bytes, stdl, cond_true, cond_false, Nat.reduceEqDiff, Nat.reduceAdd, Nat.reduceMul, Nat.reduceSub, Nat.reduceLT, Int.reduceEq, Int.reduceLT, Int.reduceLE, Int.reduceNeg, Nat.reduceLeDiff, if_true, if_false, ↓reduceIte, forall_const, implies_true, reduceCtorEq, forall_eq_or_imp, forall_eq, ne_eq]) (by simp (maxSteps := 2000000) (contextual := true) only [↓ctl, evl, val, valP, own, app, tys, Tryz.ntmps55, Tryz.results55, ↓V_convert, ↓V_bytes, stdl, cond_true, cond_false, Nat.reduceEqDiff, Nat.reduceAdd, Nat.reduceMul, Nat.reduceSub, Nat.reduceLT, Int.reduceEq, Int.reduceLT, Int.reduceLE, Int.reduceNeg, Nat.reduceLeDiff, if_true, if_false, ↓reduceIte, forall_const, implies_true, reduceCtorEq, forall_eq_or_imp, forall_eq, ne_eq]) (by simp (maxSteps := 2000000) (contextual := true) only [↓ctl, evl, val, valP, own, app, tys, Tryz.ntmps55, Tryz.results55, ↓V_convert, ↓V_bytes, stdl, cond_true, cond_false, Nat.reduceEqDiff, Nat.reduceAdd, Nat.reduceMul, Nat.reduceSub, Nat.reduceLT, Int.reduceEq, Int.reduceLT, Int.reduceLE, Int.reduceNeg, Nat.reduceLeDiff, if_true, if_false, ↓reduceIte, forall_const, implies_true, reduceCtorEq, forall_eq_or_imp, forall_eq, ne_eq]) trivial ?_
  simp (maxSteps := 2000000) only [↓ctl, evl, val, valP, own, app, tys, Tryz.ntmps55, Tryz.results55, ↓V_convert, ↓V_bytes, stdl, cond_true, cond_false, Nat.reduceEqDiff, Nat.reduceAdd, Nat.reduceMul, Nat.reduceSub, Nat.reduceLT, Int.reduceEq, Int.reduceLT, Int.reduceLE, Int.reduceNeg, Nat.reduceLeDiff, if_true, if_false, ↓reduceIte, forall_const, implies_true, reduceCtorEq, forall_eq_or_imp, forall_eq, ne_eq, n1]
  refine V_loopI mixed (ι := {p : List UInt8 × List (List UInt8) // p.1.length ≤ s.length ∧ p.2.length + p.1.length ≤ s.length ∧ cuts n s = p.2 ++ cuts n p.1}) (fun p => ⟨[(0, true, Sx p.1.1), (1, true, I n), (5, true, .sl 0 1 0 p.1.2.length)], [(0, .row 9 1 (p.1.2.map strRow))], 1, 30⟩) (fun p => p.1.1.length) ⟨(s, []), by simp⟩ ?_ ?_ ?_
  · refine weakI ?_
    simp (maxSteps := 2000000) only [↓ctl, evl, val, valP, own, app, tys, Tryz.ntmps55, Tryz.results55, ↓V_convert, ↓V_bytes, stdl, cond_true, cond_false, Nat.reduceEqDiff, Nat.reduceAdd, Nat.reduceMul, Nat.reduceSub, Nat.reduceLT, Int.reduceEq, Int.reduceLT, Int.reduceLE, Int.reduceNeg, Nat.reduceLeDiff, if_true, if_false, ↓reduceIte, forall_const, implies_true, reduceCtorEq, forall_eq_or_imp, forall_eq, ne_eq, litChunk]
  · trivial
  · rintro ⟨⟨r, acc⟩, h1, h2, h3⟩
    simp only at h1 h2 h3
    by_cases hlt : (r.length : Int) > n
    · have m1 : (n : Int) ≤ r.length := by omega
      simp (maxSteps := 2000000) only [↓ctl, evl, val, valP, own, app, tys, Tryz.ntmps55, Tryz.results55, ↓V_convert, ↓V_bytes, stdl, cond_true, cond_false, Nat.reduceEqDiff, Nat.reduceAdd, Nat.reduceMul, Nat.reduceSub, Nat.reduceLT, Int.reduceEq, Int.reduceLT, Int.reduceLE, Int.reduceNeg, Nat.reduceLeDiff, if_true, if_false, ↓reduceIte, forall_const, implies_true, reduceCtorEq, forall_eq_or_imp, forall_eq, ne_eq, hlt, m1, n2]
      have p1 : List.take (r.length - n) (List.drop n r) = r.drop n := by
        rw [List.take_of_length_le (by simp)]
      rw [p1, Nat.sub_zero, take_strs]
      refine ⟨by omega, ⟨by omega, by omega⟩, by omega, V_backI ⟨(r.drop n, acc ++ [r.take n]), ?_⟩ (by show (r.drop n).length < r.length; rw [List.length_drop]; omega) (weakI ?_)⟩
      · simp only [List.length_drop, List.length_append, List.length_cons, List.length_nil]
        refine ⟨by omega, by omega, ?_⟩
        rw [h3, cuts_step (s := r) (by omega) (by omega), List.append_assoc]; rfl
      · simp (maxSteps := 2000000) only [↓ctl, evl, val, valP, own, app, tys, Tryz.ntmps55, Tryz.results55, ↓V_convert, ↓V_bytes, stdl, cond_true, cond_false, Nat.reduceEqDiff, Nat.reduceAdd, Nat.reduceMul, Nat.reduceSub, Nat.reduceLT, Int.reduceEq, Int.reduceLT, Int.reduceLE, Int.reduceNeg, Nat.reduceLeDiff, if_true, if_false, ↓reduceIte, forall_const, implies_true, reduceCtorEq, forall_eq_or_imp, forall_eq, ne_eq, List.length_append]
    · simp (maxSteps := 2000000) only [↓ctl, evl, val, valP, own, app, tys, Tryz.ntmps55, Tryz.results55, ↓V_convert, ↓V_bytes, stdl, cond_true, cond_false, Nat.reduceEqDiff, Nat.reduceAdd, Nat.reduceMul, Nat.reduceSub, Nat.reduceLT, Int.reduceEq, Int.reduceLT, Int.reduceLE, Int.reduceNeg, Nat.reduceLeDiff, if_true, if_false, ↓reduceIte, forall_const, implies_true, reduceCtorEq, forall_eq_or_imp, forall_eq, ne_eq, hlt]
      refine ⟨fun hr => ?_, fun hr => ?_⟩
      · have hpos : 0 < r.length := by cases r with
          | nil => exact absurd rfl hr
          | cons _ _ => simp
        have e : cuts n r = [r] := by
          rw [cuts_step hpos (by omega), List.take_of_length_le (by omega), List.drop_of_length_le (by omega), cuts_nil]
        rw [take_strs, h3, e, List.length_append]
        exact ⟨⟨by omega, by omega⟩, rfl, rfl⟩
      · subst hr
        rw [cuts_nil, List.append_nil] at h3
        rw [h3]; exact ⟨rfl, rfl⟩
end Go.Proofs.YtobnbajakenbeaaGreat

