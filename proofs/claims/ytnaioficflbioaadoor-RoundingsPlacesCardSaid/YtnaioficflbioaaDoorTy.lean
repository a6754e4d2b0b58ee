/-
  Facts on the types of this seat's translation, by program (gen_ty.py): cells, bytes, zero values.
  Conditions: none.
-/
import Derived.Test.YtnaioficflbioaaDoorAmV
import Derived.Test.YtnaioficflbioaaDoorRows
import Derived.KernelRfl
set_option linter.unusedSimpArgs false
set_option linter.unnecessarySimpa false
set_option linter.unusedVariables false
namespace Go.Proofs.YtnaioficflbioaaDoor
open Go.AM

theorem sz1 : szOf Tryd.prog 1 = some 1 := by kernel_rfl
theorem by1 : byOf Tryd.prog 1 = some 8 := by kernel_rfl
theorem ze1 : zeOf Tryd.prog 1 = some (.nilFunc) := by kernel_rfl
theorem ag1 : aggOf Tryd.prog 1 = some false := by kernel_rfl
theorem con1 : Program.concrete Tryd.prog 1 = true := by kernel_rfl
theorem sz2 : szOf Tryd.prog 2 = some 1 := by kernel_rfl
theorem by2 : byOf Tryd.prog 2 = some 8 := by kernel_rfl
theorem ze2 : zeOf Tryd.prog 2 = some (.int .i64 0) := by kernel_rfl
theorem ag2 : aggOf Tryd.prog 2 = some false := by kernel_rfl
theorem con2 : Program.concrete Tryd.prog 2 = true := by kernel_rfl
theorem sz3 : szOf Tryd.prog 3 = some 1 := by kernel_rfl
theorem by3 : byOf Tryd.prog 3 = some 8 := by kernel_rfl
theorem ze3 : zeOf Tryd.prog 3 = some (.int .i64 0) := by kernel_rfl
theorem ag3 : aggOf Tryd.prog 3 = some false := by kernel_rfl
theorem con3 : Program.concrete Tryd.prog 3 = true := by kernel_rfl
theorem sz4 : szOf Tryd.prog 4 = some 1 := by kernel_rfl
theorem by4 : byOf Tryd.prog 4 = some 1 := by kernel_rfl
theorem ze4 : zeOf Tryd.prog 4 = some (.bool false) := by kernel_rfl
theorem ag4 : aggOf Tryd.prog 4 = some false := by kernel_rfl
theorem con4 : Program.concrete Tryd.prog 4 = true := by kernel_rfl
theorem sz5 : szOf Tryd.prog 5 = some 1 := by kernel_rfl
theorem by5 : byOf Tryd.prog 5 = some 1 := by kernel_rfl
theorem ze5 : zeOf Tryd.prog 5 = some (.int .u8 0) := by kernel_rfl
theorem ag5 : aggOf Tryd.prog 5 = some false := by kernel_rfl
theorem con5 : Program.concrete Tryd.prog 5 = true := by kernel_rfl
theorem sz6 : szOf Tryd.prog 6 = some 1 := by kernel_rfl
theorem by6 : byOf Tryd.prog 6 = some 1 := by kernel_rfl
theorem ze6 : zeOf Tryd.prog 6 = some (.int .u8 0) := by kernel_rfl
theorem ag6 : aggOf Tryd.prog 6 = some false := by kernel_rfl
theorem con6 : Program.concrete Tryd.prog 6 = true := by kernel_rfl
theorem sz7 : szOf Tryd.prog 7 = some 4 := by kernel_rfl
theorem by7 : byOf Tryd.prog 7 = some 24 := by kernel_rfl
theorem ze7 : zeOf Tryd.prog 7 = some (.agg #[.int .i64 0, .int .i64 0, .bool false, .int .u8 0]) := by kernel_rfl
theorem ag7 : aggOf Tryd.prog 7 = some true := by kernel_rfl
theorem con7 : Program.concrete Tryd.prog 7 = true := by kernel_rfl
theorem egt7 : Tryd.prog.eqGuardType Tryd.prog.depth 7 = false := by kernel_rfl
theorem sz8 : szOf Tryd.prog 8 = some 4 := by kernel_rfl
theorem by8 : byOf Tryd.prog 8 = some 24 := by kernel_rfl
theorem ze8 : zeOf Tryd.prog 8 = some (.agg #[.int .i64 0, .int .i64 0, .bool false, .int .u8 0]) := by kernel_rfl
theorem ag8 : aggOf Tryd.prog 8 = some true := by kernel_rfl
theorem con8 : Program.concrete Tryd.prog 8 = true := by kernel_rfl
theorem egt8 : Tryd.prog.eqGuardType Tryd.prog.depth 8 = false := by kernel_rfl
theorem sz9 : szOf Tryd.prog 9 = some 1 := by kernel_rfl
theorem by9 : byOf Tryd.prog 9 = some 16 := by kernel_rfl
theorem ze9 : zeOf Tryd.prog 9 = some (.string .empty) := by kernel_rfl
theorem ag9 : aggOf Tryd.prog 9 = some false := by kernel_rfl
theorem con9 : Program.concrete Tryd.prog 9 = true := by kernel_rfl
theorem sz10 : szOf Tryd.prog 10 = some 1 := by kernel_rfl
theorem by10 : byOf Tryd.prog 10 = some 16 := by kernel_rfl
theorem ze10 : zeOf Tryd.prog 10 = some (.string .empty) := by kernel_rfl
theorem ag10 : aggOf Tryd.prog 10 = some false := by kernel_rfl
theorem con10 : Program.concrete Tryd.prog 10 = true := by kernel_rfl
theorem sz11 : szOf Tryd.prog 11 = some 1 := by kernel_rfl
theorem by11 : byOf Tryd.prog 11 = some 16 := by kernel_rfl
theorem ze11 : zeOf Tryd.prog 11 = some (.string .empty) := by kernel_rfl
theorem ag11 : aggOf Tryd.prog 11 = some false := by kernel_rfl
theorem con11 : Program.concrete Tryd.prog 11 = true := by kernel_rfl
theorem sz12 : szOf Tryd.prog 12 = some 1 := by kernel_rfl
theorem by12 : byOf Tryd.prog 12 = some 8 := by kernel_rfl
theorem ze12 : zeOf Tryd.prog 12 = some (.int .u64 0) := by kernel_rfl
theorem ag12 : aggOf Tryd.prog 12 = some false := by kernel_rfl
theorem con12 : Program.concrete Tryd.prog 12 = true := by kernel_rfl
theorem sz13 : szOf Tryd.prog 13 = some 2 := by kernel_rfl
theorem by13 : byOf Tryd.prog 13 = some 24 := by kernel_rfl
theorem ze13 : zeOf Tryd.prog 13 = some (.agg #[.string .empty, .int .u64 0]) := by kernel_rfl
theorem ag13 : aggOf Tryd.prog 13 = some true := by kernel_rfl
theorem con13 : Program.concrete Tryd.prog 13 = true := by kernel_rfl
theorem egt13 : Tryd.prog.eqGuardType Tryd.prog.depth 13 = false := by kernel_rfl
theorem sz14 : szOf Tryd.prog 14 = some 2 := by kernel_rfl
theorem by14 : byOf Tryd.prog 14 = some 24 := by kernel_rfl
theorem ze14 : zeOf Tryd.prog 14 = some (.agg #[.string .empty, .int .u64 0]) := by kernel_rfl
theorem ag14 : aggOf Tryd.prog 14 = some true := by kernel_rfl
theorem con14 : Program.concrete Tryd.prog 14 = true := by kernel_rfl
theorem egt14 : Tryd.prog.eqGuardType Tryd.prog.depth 14 = false := by kernel_rfl
theorem sz15 : szOf Tryd.prog 15 = some 1 := by kernel_rfl
theorem by15 : byOf Tryd.prog 15 = some 8 := by kernel_rfl
theorem ze15 : zeOf Tryd.prog 15 = some (.pointer none) := by kernel_rfl
theorem ag15 : aggOf Tryd.prog 15 = some false := by kernel_rfl
theorem con15 : Program.concrete Tryd.prog 15 = true := by kernel_rfl
theorem sz16 : szOf Tryd.prog 16 = some 1 := by kernel_rfl
theorem by16 : byOf Tryd.prog 16 = some 8 := by kernel_rfl
theorem ze16 : zeOf Tryd.prog 16 = some (.pointer none) := by kernel_rfl
theorem ag16 : aggOf Tryd.prog 16 = some false := by kernel_rfl
theorem con16 : Program.concrete Tryd.prog 16 = true := by kernel_rfl
theorem sz17 : szOf Tryd.prog 17 = some 1 := by kernel_rfl
theorem by17 : byOf Tryd.prog 17 = some 8 := by kernel_rfl
theorem ze17 : zeOf Tryd.prog 17 = some (.pointer none) := by kernel_rfl
theorem ag17 : aggOf Tryd.prog 17 = some false := by kernel_rfl
theorem con17 : Program.concrete Tryd.prog 17 = true := by kernel_rfl
theorem sz18 : szOf Tryd.prog 18 = some 1 := by kernel_rfl
theorem by18 : byOf Tryd.prog 18 = some 8 := by kernel_rfl
theorem ze18 : zeOf Tryd.prog 18 = some (.agg #[.pointer none]) := by kernel_rfl
theorem ag18 : aggOf Tryd.prog 18 = some true := by kernel_rfl
theorem con18 : Program.concrete Tryd.prog 18 = true := by kernel_rfl
theorem egt18 : Tryd.prog.eqGuardType Tryd.prog.depth 18 = false := by kernel_rfl
theorem sz19 : szOf Tryd.prog 19 = some 1 := by kernel_rfl
theorem by19 : byOf Tryd.prog 19 = some 8 := by kernel_rfl
theorem ze19 : zeOf Tryd.prog 19 = some (.agg #[.pointer none]) := by kernel_rfl
theorem ag19 : aggOf Tryd.prog 19 = some true := by kernel_rfl
theorem con19 : Program.concrete Tryd.prog 19 = true := by kernel_rfl
theorem egt19 : Tryd.prog.eqGuardType Tryd.prog.depth 19 = false := by kernel_rfl
theorem sz20 : szOf Tryd.prog 20 = some 1 := by kernel_rfl
theorem by20 : byOf Tryd.prog 20 = some 16 := by kernel_rfl
theorem ze20 : zeOf Tryd.prog 20 = some (.nilIface) := by kernel_rfl
theorem ag20 : aggOf Tryd.prog 20 = some false := by kernel_rfl
theorem con20 : Program.concrete Tryd.prog 20 = false := by kernel_rfl
theorem sz21 : szOf Tryd.prog 21 = some 1 := by kernel_rfl
theorem by21 : byOf Tryd.prog 21 = some 4 := by kernel_rfl
theorem ze21 : zeOf Tryd.prog 21 = some (.int .i32 0) := by kernel_rfl
theorem ag21 : aggOf Tryd.prog 21 = some false := by kernel_rfl
theorem con21 : Program.concrete Tryd.prog 21 = true := by kernel_rfl
theorem sz22 : szOf Tryd.prog 22 = some 1 := by kernel_rfl
theorem by22 : byOf Tryd.prog 22 = some 24 := by kernel_rfl
theorem ze22 : zeOf Tryd.prog 22 = some (.slice none 0 0) := by kernel_rfl
theorem ag22 : aggOf Tryd.prog 22 = some false := by kernel_rfl
theorem con22 : Program.concrete Tryd.prog 22 = true := by kernel_rfl
theorem sz23 : szOf Tryd.prog 23 = some 3 := by kernel_rfl
theorem by23 : byOf Tryd.prog 23 = some 40 := by kernel_rfl
theorem ze23 : zeOf Tryd.prog 23 = some (.agg #[.bool false, .slice none 0 0, .int .u8 0]) := by kernel_rfl
theorem ag23 : aggOf Tryd.prog 23 = some true := by kernel_rfl
theorem con23 : Program.concrete Tryd.prog 23 = true := by kernel_rfl
theorem egt23 : Tryd.prog.eqGuardType Tryd.prog.depth 23 = false := by kernel_rfl
theorem sz24 : szOf Tryd.prog 24 = some 3 := by kernel_rfl
theorem by24 : byOf Tryd.prog 24 = some 40 := by kernel_rfl
theorem ze24 : zeOf Tryd.prog 24 = some (.agg #[.bool false, .slice none 0 0, .int .u8 0]) := by kernel_rfl
theorem ag24 : aggOf Tryd.prog 24 = some true := by kernel_rfl
theorem con24 : Program.concrete Tryd.prog 24 = true := by kernel_rfl
theorem nsi24 : Tryd.prog.stoodInHeld 24 = false := by kernel_rfl
theorem egt24 : Tryd.prog.eqGuardType Tryd.prog.depth 24 = false := by kernel_rfl
theorem sz25 : szOf Tryd.prog 25 = some 2 := by kernel_rfl
theorem by25 : byOf Tryd.prog 25 = some 2 := by kernel_rfl
theorem ze25 : zeOf Tryd.prog 25 = some (.agg #[.int .u8 0, .int .u8 0]) := by kernel_rfl
theorem ag25 : aggOf Tryd.prog 25 = some true := by kernel_rfl
theorem con25 : Program.concrete Tryd.prog 25 = true := by kernel_rfl
theorem egt25 : Tryd.prog.eqGuardType Tryd.prog.depth 25 = false := by kernel_rfl
theorem sz26 : szOf Tryd.prog 26 = some 2 := by kernel_rfl
theorem by26 : byOf Tryd.prog 26 = some 2 := by kernel_rfl
theorem ze26 : zeOf Tryd.prog 26 = some (.agg #[.int .u8 0, .int .u8 0]) := by kernel_rfl
theorem ag26 : aggOf Tryd.prog 26 = some true := by kernel_rfl
theorem con26 : Program.concrete Tryd.prog 26 = true := by kernel_rfl
theorem nsi26 : Tryd.prog.stoodInHeld 26 = false := by kernel_rfl
theorem egt26 : Tryd.prog.eqGuardType Tryd.prog.depth 26 = false := by kernel_rfl
theorem sz27 : szOf Tryd.prog 27 = some 3 := by kernel_rfl
theorem by27 : byOf Tryd.prog 27 = some 32 := by kernel_rfl
theorem ze27 : zeOf Tryd.prog 27 = some (.agg #[.bool false, .string .empty, .int .i64 0]) := by kernel_rfl
theorem ag27 : aggOf Tryd.prog 27 = some true := by kernel_rfl
theorem con27 : Program.concrete Tryd.prog 27 = true := by kernel_rfl
theorem egt27 : Tryd.prog.eqGuardType Tryd.prog.depth 27 = false := by kernel_rfl
theorem sz28 : szOf Tryd.prog 28 = some 3 := by kernel_rfl
theorem by28 : byOf Tryd.prog 28 = some 32 := by kernel_rfl
theorem ze28 : zeOf Tryd.prog 28 = some (.agg #[.bool false, .string .empty, .int .i64 0]) := by kernel_rfl
theorem ag28 : aggOf Tryd.prog 28 = some true := by kernel_rfl
theorem con28 : Program.concrete Tryd.prog 28 = true := by kernel_rfl
theorem nsi28 : Tryd.prog.stoodInHeld 28 = false := by kernel_rfl
theorem egt28 : Tryd.prog.eqGuardType Tryd.prog.depth 28 = false := by kernel_rfl
theorem sz29 : szOf Tryd.prog 29 = some 1 := by kernel_rfl
theorem by29 : byOf Tryd.prog 29 = some 8 := by kernel_rfl
theorem ze29 : zeOf Tryd.prog 29 = some (.nilFunc) := by kernel_rfl
theorem ag29 : aggOf Tryd.prog 29 = some false := by kernel_rfl
theorem con29 : Program.concrete Tryd.prog 29 = true := by kernel_rfl
theorem sz31 : szOf Tryd.prog 31 = some 1 := by kernel_rfl
theorem by31 : byOf Tryd.prog 31 = some 8 := by kernel_rfl
theorem ze31 : zeOf Tryd.prog 31 = some (.nilFunc) := by kernel_rfl
theorem ag31 : aggOf Tryd.prog 31 = some false := by kernel_rfl
theorem con31 : Program.concrete Tryd.prog 31 = true := by kernel_rfl
theorem sz32 : szOf Tryd.prog 32 = some 1 := by kernel_rfl
theorem by32 : byOf Tryd.prog 32 = some 8 := by kernel_rfl
theorem ze32 : zeOf Tryd.prog 32 = some (.int .i64 0) := by kernel_rfl
theorem ag32 : aggOf Tryd.prog 32 = some false := by kernel_rfl
theorem con32 : Program.concrete Tryd.prog 32 = true := by kernel_rfl
theorem sz34 : szOf Tryd.prog 34 = some 1 := by kernel_rfl
theorem by34 : byOf Tryd.prog 34 = some 8 := by kernel_rfl
theorem ze34 : zeOf Tryd.prog 34 = some (.nilFunc) := by kernel_rfl
theorem ag34 : aggOf Tryd.prog 34 = some false := by kernel_rfl
theorem con34 : Program.concrete Tryd.prog 34 = true := by kernel_rfl
theorem sz35 : szOf Tryd.prog 35 = some 1 := by kernel_rfl
theorem by35 : byOf Tryd.prog 35 = some 1 := by kernel_rfl
theorem ze35 : zeOf Tryd.prog 35 = some (.int .u8 0) := by kernel_rfl
theorem ag35 : aggOf Tryd.prog 35 = some false := by kernel_rfl
theorem con35 : Program.concrete Tryd.prog 35 = true := by kernel_rfl
theorem sz37 : szOf Tryd.prog 37 = some 1 := by kernel_rfl
theorem by37 : byOf Tryd.prog 37 = some 8 := by kernel_rfl
theorem ze37 : zeOf Tryd.prog 37 = some (.nilFunc) := by kernel_rfl
theorem ag37 : aggOf Tryd.prog 37 = some false := by kernel_rfl
theorem con37 : Program.concrete Tryd.prog 37 = true := by kernel_rfl
theorem sz38 : szOf Tryd.prog 38 = some 1 := by kernel_rfl
theorem by38 : byOf Tryd.prog 38 = some 8 := by kernel_rfl
theorem ze38 : zeOf Tryd.prog 38 = some (.nilFunc) := by kernel_rfl
theorem ag38 : aggOf Tryd.prog 38 = some false := by kernel_rfl
theorem con38 : Program.concrete Tryd.prog 38 = true := by kernel_rfl
theorem sz39 : szOf Tryd.prog 39 = some 1 := by kernel_rfl
theorem by39 : byOf Tryd.prog 39 = some 8 := by kernel_rfl
theorem ze39 : zeOf Tryd.prog 39 = some (.nilFunc) := by kernel_rfl
theorem ag39 : aggOf Tryd.prog 39 = some false := by kernel_rfl
theorem con39 : Program.concrete Tryd.prog 39 = true := by kernel_rfl
theorem sz40 : szOf Tryd.prog 40 = some 1 := by kernel_rfl
theorem by40 : byOf Tryd.prog 40 = some 8 := by kernel_rfl
theorem ze40 : zeOf Tryd.prog 40 = some (.nilFunc) := by kernel_rfl
theorem ag40 : aggOf Tryd.prog 40 = some false := by kernel_rfl
theorem con40 : Program.concrete Tryd.prog 40 = true := by kernel_rfl
theorem sz41 : szOf Tryd.prog 41 = some 1 := by kernel_rfl
theorem by41 : byOf Tryd.prog 41 = some 8 := by kernel_rfl
theorem ze41 : zeOf Tryd.prog 41 = some (.nilFunc) := by kernel_rfl
theorem ag41 : aggOf Tryd.prog 41 = some false := by kernel_rfl
theorem con41 : Program.concrete Tryd.prog 41 = true := by kernel_rfl
theorem sz43 : szOf Tryd.prog 43 = some 1 := by kernel_rfl
theorem by43 : byOf Tryd.prog 43 = some 8 := by kernel_rfl
theorem ze43 : zeOf Tryd.prog 43 = some (.nilFunc) := by kernel_rfl
theorem ag43 : aggOf Tryd.prog 43 = some false := by kernel_rfl
theorem con43 : Program.concrete Tryd.prog 43 = true := by kernel_rfl
theorem sz44 : szOf Tryd.prog 44 = some 1 := by kernel_rfl
theorem by44 : byOf Tryd.prog 44 = some 8 := by kernel_rfl
theorem ze44 : zeOf Tryd.prog 44 = some (.nilFunc) := by kernel_rfl
theorem ag44 : aggOf Tryd.prog 44 = some false := by kernel_rfl
theorem con44 : Program.concrete Tryd.prog 44 = true := by kernel_rfl
theorem sz46 : szOf Tryd.prog 46 = some 1 := by kernel_rfl
theorem by46 : byOf Tryd.prog 46 = some 8 := by kernel_rfl
theorem ze46 : zeOf Tryd.prog 46 = some (.nilFunc) := by kernel_rfl
theorem ag46 : aggOf Tryd.prog 46 = some false := by kernel_rfl
theorem con46 : Program.concrete Tryd.prog 46 = true := by kernel_rfl
theorem sz47 : szOf Tryd.prog 47 = some 1 := by kernel_rfl
theorem by47 : byOf Tryd.prog 47 = some 8 := by kernel_rfl
theorem ze47 : zeOf Tryd.prog 47 = some (.nilFunc) := by kernel_rfl
theorem ag47 : aggOf Tryd.prog 47 = some false := by kernel_rfl
theorem con47 : Program.concrete Tryd.prog 47 = true := by kernel_rfl
theorem sz48 : szOf Tryd.prog 48 = some 1 := by kernel_rfl
theorem by48 : byOf Tryd.prog 48 = some 8 := by kernel_rfl
theorem ze48 : zeOf Tryd.prog 48 = some (.nilFunc) := by kernel_rfl
theorem ag48 : aggOf Tryd.prog 48 = some false := by kernel_rfl
theorem con48 : Program.concrete Tryd.prog 48 = true := by kernel_rfl
theorem sz49 : szOf Tryd.prog 49 = some 2 := by kernel_rfl
theorem by49 : byOf Tryd.prog 49 = some 16 := by kernel_rfl
theorem ze49 : zeOf Tryd.prog 49 = some (.agg #[.int .i64 0, .int .i64 0]) := by kernel_rfl
theorem ag49 : aggOf Tryd.prog 49 = some true := by kernel_rfl
theorem con49 : Program.concrete Tryd.prog 49 = true := by kernel_rfl
theorem egt49 : Tryd.prog.eqGuardType Tryd.prog.depth 49 = false := by kernel_rfl
theorem sz50 : szOf Tryd.prog 50 = some 1 := by kernel_rfl
theorem by50 : byOf Tryd.prog 50 = some 8 := by kernel_rfl
theorem ze50 : zeOf Tryd.prog 50 = some (.nilFunc) := by kernel_rfl
theorem ag50 : aggOf Tryd.prog 50 = some false := by kernel_rfl
theorem con50 : Program.concrete Tryd.prog 50 = true := by kernel_rfl
theorem sz51 : szOf Tryd.prog 51 = some 1 := by kernel_rfl
theorem by51 : byOf Tryd.prog 51 = some 8 := by kernel_rfl
theorem ze51 : zeOf Tryd.prog 51 = some (.nilFunc) := by kernel_rfl
theorem ag51 : aggOf Tryd.prog 51 = some false := by kernel_rfl
theorem con51 : Program.concrete Tryd.prog 51 = true := by kernel_rfl
theorem sz52 : szOf Tryd.prog 52 = some 1 := by kernel_rfl
theorem by52 : byOf Tryd.prog 52 = some 8 := by kernel_rfl
theorem ze52 : zeOf Tryd.prog 52 = some (.nilFunc) := by kernel_rfl
theorem ag52 : aggOf Tryd.prog 52 = some false := by kernel_rfl
theorem con52 : Program.concrete Tryd.prog 52 = true := by kernel_rfl
theorem sz53 : szOf Tryd.prog 53 = some 1 := by kernel_rfl
theorem by53 : byOf Tryd.prog 53 = some 24 := by kernel_rfl
theorem ze53 : zeOf Tryd.prog 53 = some (.slice none 0 0) := by kernel_rfl
theorem ag53 : aggOf Tryd.prog 53 = some false := by kernel_rfl
theorem con53 : Program.concrete Tryd.prog 53 = true := by kernel_rfl
theorem sz55 : szOf Tryd.prog 55 = some 1 := by kernel_rfl
theorem by55 : byOf Tryd.prog 55 = some 8 := by kernel_rfl
theorem ze55 : zeOf Tryd.prog 55 = some (.nilFunc) := by kernel_rfl
theorem ag55 : aggOf Tryd.prog 55 = some false := by kernel_rfl
theorem con55 : Program.concrete Tryd.prog 55 = true := by kernel_rfl
theorem sz56 : szOf Tryd.prog 56 = some 1 := by kernel_rfl
theorem by56 : byOf Tryd.prog 56 = some 8 := by kernel_rfl
theorem ze56 : zeOf Tryd.prog 56 = some (.nilFunc) := by kernel_rfl
theorem ag56 : aggOf Tryd.prog 56 = some false := by kernel_rfl
theorem con56 : Program.concrete Tryd.prog 56 = true := by kernel_rfl
theorem sz57 : szOf Tryd.prog 57 = some 1 := by kernel_rfl
theorem by57 : byOf Tryd.prog 57 = some 8 := by kernel_rfl
theorem ze57 : zeOf Tryd.prog 57 = some (.nilFunc) := by kernel_rfl
theorem ag57 : aggOf Tryd.prog 57 = some false := by kernel_rfl
theorem con57 : Program.concrete Tryd.prog 57 = true := by kernel_rfl
theorem sz58 : szOf Tryd.prog 58 = some 1 := by kernel_rfl
theorem by58 : byOf Tryd.prog 58 = some 8 := by kernel_rfl
theorem ze58 : zeOf Tryd.prog 58 = some (.nilFunc) := by kernel_rfl
theorem ag58 : aggOf Tryd.prog 58 = some false := by kernel_rfl
theorem con58 : Program.concrete Tryd.prog 58 = true := by kernel_rfl
theorem sz59 : szOf Tryd.prog 59 = some 1 := by kernel_rfl
theorem by59 : byOf Tryd.prog 59 = some 8 := by kernel_rfl
theorem ze59 : zeOf Tryd.prog 59 = some (.nilFunc) := by kernel_rfl
theorem ag59 : aggOf Tryd.prog 59 = some false := by kernel_rfl
theorem con59 : Program.concrete Tryd.prog 59 = true := by kernel_rfl
theorem sz61 : szOf Tryd.prog 61 = some 1 := by kernel_rfl
theorem by61 : byOf Tryd.prog 61 = some 8 := by kernel_rfl
theorem ze61 : zeOf Tryd.prog 61 = some (.nilFunc) := by kernel_rfl
theorem ag61 : aggOf Tryd.prog 61 = some false := by kernel_rfl
theorem con61 : Program.concrete Tryd.prog 61 = true := by kernel_rfl
theorem sz62 : szOf Tryd.prog 62 = some 1 := by kernel_rfl
theorem by62 : byOf Tryd.prog 62 = some 8 := by kernel_rfl
theorem ze62 : zeOf Tryd.prog 62 = some (.nilFunc) := by kernel_rfl
theorem ag62 : aggOf Tryd.prog 62 = some false := by kernel_rfl
theorem con62 : Program.concrete Tryd.prog 62 = true := by kernel_rfl
theorem sz63 : szOf Tryd.prog 63 = some 1 := by kernel_rfl
theorem by63 : byOf Tryd.prog 63 = some 8 := by kernel_rfl
theorem ze63 : zeOf Tryd.prog 63 = some (.nilFunc) := by kernel_rfl
theorem ag63 : aggOf Tryd.prog 63 = some false := by kernel_rfl
theorem con63 : Program.concrete Tryd.prog 63 = true := by kernel_rfl
theorem sz65 : szOf Tryd.prog 65 = some 1 := by kernel_rfl
theorem by65 : byOf Tryd.prog 65 = some 8 := by kernel_rfl
theorem ze65 : zeOf Tryd.prog 65 = some (.nilFunc) := by kernel_rfl
theorem ag65 : aggOf Tryd.prog 65 = some false := by kernel_rfl
theorem con65 : Program.concrete Tryd.prog 65 = true := by kernel_rfl
theorem sz66 : szOf Tryd.prog 66 = some 1 := by kernel_rfl
theorem by66 : byOf Tryd.prog 66 = some 8 := by kernel_rfl
theorem ze66 : zeOf Tryd.prog 66 = some (.nilFunc) := by kernel_rfl
theorem ag66 : aggOf Tryd.prog 66 = some false := by kernel_rfl
theorem con66 : Program.concrete Tryd.prog 66 = true := by kernel_rfl
theorem sz67 : szOf Tryd.prog 67 = some 1 := by kernel_rfl
theorem by67 : byOf Tryd.prog 67 = some 8 := by kernel_rfl
theorem ze67 : zeOf Tryd.prog 67 = some (.nilFunc) := by kernel_rfl
theorem ag67 : aggOf Tryd.prog 67 = some false := by kernel_rfl
theorem con67 : Program.concrete Tryd.prog 67 = true := by kernel_rfl
theorem sz68 : szOf Tryd.prog 68 = some 1 := by kernel_rfl
theorem by68 : byOf Tryd.prog 68 = some 24 := by kernel_rfl
theorem ze68 : zeOf Tryd.prog 68 = some (.slice none 0 0) := by kernel_rfl
theorem ag68 : aggOf Tryd.prog 68 = some false := by kernel_rfl
theorem con68 : Program.concrete Tryd.prog 68 = true := by kernel_rfl
theorem sz69 : szOf Tryd.prog 69 = some 1 := by kernel_rfl
theorem by69 : byOf Tryd.prog 69 = some 24 := by kernel_rfl
theorem ze69 : zeOf Tryd.prog 69 = some (.slice none 0 0) := by kernel_rfl
theorem ag69 : aggOf Tryd.prog 69 = some false := by kernel_rfl
theorem con69 : Program.concrete Tryd.prog 69 = true := by kernel_rfl
theorem sz70 : szOf Tryd.prog 70 = some 1 := by kernel_rfl
theorem by70 : byOf Tryd.prog 70 = some 24 := by kernel_rfl
theorem ze70 : zeOf Tryd.prog 70 = some (.slice none 0 0) := by kernel_rfl
theorem ag70 : aggOf Tryd.prog 70 = some false := by kernel_rfl
theorem con70 : Program.concrete Tryd.prog 70 = true := by kernel_rfl
theorem sz72 : szOf Tryd.prog 72 = some 1 := by kernel_rfl
theorem by72 : byOf Tryd.prog 72 = some 8 := by kernel_rfl
theorem ze72 : zeOf Tryd.prog 72 = some (.nilFunc) := by kernel_rfl
theorem ag72 : aggOf Tryd.prog 72 = some false := by kernel_rfl
theorem con72 : Program.concrete Tryd.prog 72 = true := by kernel_rfl
theorem sz73 : szOf Tryd.prog 73 = some 1 := by kernel_rfl
theorem by73 : byOf Tryd.prog 73 = some 8 := by kernel_rfl
theorem ze73 : zeOf Tryd.prog 73 = some (.nilFunc) := by kernel_rfl
theorem ag73 : aggOf Tryd.prog 73 = some false := by kernel_rfl
theorem con73 : Program.concrete Tryd.prog 73 = true := by kernel_rfl
theorem sz74 : szOf Tryd.prog 74 = some 1 := by kernel_rfl
theorem by74 : byOf Tryd.prog 74 = some 8 := by kernel_rfl
theorem ze74 : zeOf Tryd.prog 74 = some (.nilFunc) := by kernel_rfl
theorem ag74 : aggOf Tryd.prog 74 = some false := by kernel_rfl
theorem con74 : Program.concrete Tryd.prog 74 = true := by kernel_rfl
theorem sz75 : szOf Tryd.prog 75 = some 1 := by kernel_rfl
theorem by75 : byOf Tryd.prog 75 = some 8 := by kernel_rfl
theorem ze75 : zeOf Tryd.prog 75 = some (.nilFunc) := by kernel_rfl
theorem ag75 : aggOf Tryd.prog 75 = some false := by kernel_rfl
theorem con75 : Program.concrete Tryd.prog 75 = true := by kernel_rfl
theorem sz76 : szOf Tryd.prog 76 = some 1 := by kernel_rfl
theorem by76 : byOf Tryd.prog 76 = some 8 := by kernel_rfl
theorem ze76 : zeOf Tryd.prog 76 = some (.nilFunc) := by kernel_rfl
theorem ag76 : aggOf Tryd.prog 76 = some false := by kernel_rfl
theorem con76 : Program.concrete Tryd.prog 76 = true := by kernel_rfl
theorem sz77 : szOf Tryd.prog 77 = some 8 := by kernel_rfl
theorem by77 : byOf Tryd.prog 77 = some 128 := by kernel_rfl
theorem ze77 : zeOf Tryd.prog 77 = some (.agg #[.string .empty, .string .empty, .string .empty, .string .empty, .string .empty, .string .empty, .string .empty, .string .empty]) := by kernel_rfl
theorem ag77 : aggOf Tryd.prog 77 = some true := by kernel_rfl
theorem con77 : Program.concrete Tryd.prog 77 = true := by kernel_rfl
theorem egt77 : Tryd.prog.eqGuardType Tryd.prog.depth 77 = false := by kernel_rfl
theorem sz78 : szOf Tryd.prog 78 = some 1 := by kernel_rfl
theorem by78 : byOf Tryd.prog 78 = some 8 := by kernel_rfl
theorem ze78 : zeOf Tryd.prog 78 = some (.nilFunc) := by kernel_rfl
theorem ag78 : aggOf Tryd.prog 78 = some false := by kernel_rfl
theorem con78 : Program.concrete Tryd.prog 78 = true := by kernel_rfl
theorem sz80 : szOf Tryd.prog 80 = some 1 := by kernel_rfl
theorem by80 : byOf Tryd.prog 80 = some 8 := by kernel_rfl
theorem ze80 : zeOf Tryd.prog 80 = some (.nilFunc) := by kernel_rfl
theorem ag80 : aggOf Tryd.prog 80 = some false := by kernel_rfl
theorem con80 : Program.concrete Tryd.prog 80 = true := by kernel_rfl
theorem sz81 : szOf Tryd.prog 81 = some 1 := by kernel_rfl
theorem by81 : byOf Tryd.prog 81 = some 8 := by kernel_rfl
theorem ze81 : zeOf Tryd.prog 81 = some (.nilFunc) := by kernel_rfl
theorem ag81 : aggOf Tryd.prog 81 = some false := by kernel_rfl
theorem con81 : Program.concrete Tryd.prog 81 = true := by kernel_rfl
theorem sz82 : szOf Tryd.prog 82 = some 1 := by kernel_rfl
theorem by82 : byOf Tryd.prog 82 = some 8 := by kernel_rfl
theorem ze82 : zeOf Tryd.prog 82 = some (.nilFunc) := by kernel_rfl
theorem ag82 : aggOf Tryd.prog 82 = some false := by kernel_rfl
theorem con82 : Program.concrete Tryd.prog 82 = true := by kernel_rfl
theorem sz83 : szOf Tryd.prog 83 = some 1 := by kernel_rfl
theorem by83 : byOf Tryd.prog 83 = some 8 := by kernel_rfl
theorem ze83 : zeOf Tryd.prog 83 = some (.nilFunc) := by kernel_rfl
theorem ag83 : aggOf Tryd.prog 83 = some false := by kernel_rfl
theorem con83 : Program.concrete Tryd.prog 83 = true := by kernel_rfl
theorem sz84 : szOf Tryd.prog 84 = some 1 := by kernel_rfl
theorem by84 : byOf Tryd.prog 84 = some 8 := by kernel_rfl
theorem ze84 : zeOf Tryd.prog 84 = some (.nilFunc) := by kernel_rfl
theorem ag84 : aggOf Tryd.prog 84 = some false := by kernel_rfl
theorem con84 : Program.concrete Tryd.prog 84 = true := by kernel_rfl
theorem sz85 : szOf Tryd.prog 85 = some 1 := by kernel_rfl
theorem by85 : byOf Tryd.prog 85 = some 8 := by kernel_rfl
theorem ze85 : zeOf Tryd.prog 85 = some (.nilFunc) := by kernel_rfl
theorem ag85 : aggOf Tryd.prog 85 = some false := by kernel_rfl
theorem con85 : Program.concrete Tryd.prog 85 = true := by kernel_rfl
theorem sz86 : szOf Tryd.prog 86 = some 256 := by kernel_rfl
theorem by86 : byOf Tryd.prog 86 = some 256 := by kernel_rfl
theorem ag86 : aggOf Tryd.prog 86 = some true := by kernel_rfl
theorem con86 : Program.concrete Tryd.prog 86 = true := by kernel_rfl
theorem egt86 : Tryd.prog.eqGuardType Tryd.prog.depth 86 = false := by kernel_rfl
theorem sz87 : szOf Tryd.prog 87 = some 256 := by kernel_rfl
theorem by87 : byOf Tryd.prog 87 = some 256 := by kernel_rfl
theorem ag87 : aggOf Tryd.prog 87 = some true := by kernel_rfl
theorem con87 : Program.concrete Tryd.prog 87 = true := by kernel_rfl
theorem egt87 : Tryd.prog.eqGuardType Tryd.prog.depth 87 = false := by kernel_rfl
theorem sz89 : szOf Tryd.prog 89 = some 1 := by kernel_rfl
theorem by89 : byOf Tryd.prog 89 = some 8 := by kernel_rfl
theorem ze89 : zeOf Tryd.prog 89 = some (.nilFunc) := by kernel_rfl
theorem ag89 : aggOf Tryd.prog 89 = some false := by kernel_rfl
theorem con89 : Program.concrete Tryd.prog 89 = true := by kernel_rfl
theorem sz90 : szOf Tryd.prog 90 = some 1 := by kernel_rfl
theorem by90 : byOf Tryd.prog 90 = some 8 := by kernel_rfl
theorem ze90 : zeOf Tryd.prog 90 = some (.nilFunc) := by kernel_rfl
theorem ag90 : aggOf Tryd.prog 90 = some false := by kernel_rfl
theorem con90 : Program.concrete Tryd.prog 90 = true := by kernel_rfl
theorem sz91 : szOf Tryd.prog 91 = some 1 := by kernel_rfl
theorem by91 : byOf Tryd.prog 91 = some 8 := by kernel_rfl
theorem ze91 : zeOf Tryd.prog 91 = some (.pointer none) := by kernel_rfl
theorem ag91 : aggOf Tryd.prog 91 = some false := by kernel_rfl
theorem con91 : Program.concrete Tryd.prog 91 = true := by kernel_rfl
theorem sz92 : szOf Tryd.prog 92 = some 1 := by kernel_rfl
theorem by92 : byOf Tryd.prog 92 = some 8 := by kernel_rfl
theorem ze92 : zeOf Tryd.prog 92 = some (.nilFunc) := by kernel_rfl
theorem ag92 : aggOf Tryd.prog 92 = some false := by kernel_rfl
theorem con92 : Program.concrete Tryd.prog 92 = true := by kernel_rfl
theorem sz94 : szOf Tryd.prog 94 = some 1 := by kernel_rfl
theorem by94 : byOf Tryd.prog 94 = some 8 := by kernel_rfl
theorem ze94 : zeOf Tryd.prog 94 = some (.nilFunc) := by kernel_rfl
theorem ag94 : aggOf Tryd.prog 94 = some false := by kernel_rfl
theorem con94 : Program.concrete Tryd.prog 94 = true := by kernel_rfl
theorem sz95 : szOf Tryd.prog 95 = some 1 := by kernel_rfl
theorem by95 : byOf Tryd.prog 95 = some 8 := by kernel_rfl
theorem ze95 : zeOf Tryd.prog 95 = some (.nilFunc) := by kernel_rfl
theorem ag95 : aggOf Tryd.prog 95 = some false := by kernel_rfl
theorem con95 : Program.concrete Tryd.prog 95 = true := by kernel_rfl
theorem sz96 : szOf Tryd.prog 96 = some 1 := by kernel_rfl
theorem by96 : byOf Tryd.prog 96 = some 8 := by kernel_rfl
theorem ze96 : zeOf Tryd.prog 96 = some (.nilFunc) := by kernel_rfl
theorem ag96 : aggOf Tryd.prog 96 = some false := by kernel_rfl
theorem con96 : Program.concrete Tryd.prog 96 = true := by kernel_rfl
theorem sz97 : szOf Tryd.prog 97 = some 1 := by kernel_rfl
theorem by97 : byOf Tryd.prog 97 = some 8 := by kernel_rfl
theorem ze97 : zeOf Tryd.prog 97 = some (.int .u64 0) := by kernel_rfl
theorem ag97 : aggOf Tryd.prog 97 = some false := by kernel_rfl
theorem con97 : Program.concrete Tryd.prog 97 = true := by kernel_rfl
theorem sz99 : szOf Tryd.prog 99 = some 1 := by kernel_rfl
theorem by99 : byOf Tryd.prog 99 = some 8 := by kernel_rfl
theorem ze99 : zeOf Tryd.prog 99 = some (.nilFunc) := by kernel_rfl
theorem ag99 : aggOf Tryd.prog 99 = some false := by kernel_rfl
theorem con99 : Program.concrete Tryd.prog 99 = true := by kernel_rfl
theorem sz100 : szOf Tryd.prog 100 = some 1 := by kernel_rfl
theorem by100 : byOf Tryd.prog 100 = some 8 := by kernel_rfl
theorem ze100 : zeOf Tryd.prog 100 = some (.pointer none) := by kernel_rfl
theorem ag100 : aggOf Tryd.prog 100 = some false := by kernel_rfl
theorem con100 : Program.concrete Tryd.prog 100 = true := by kernel_rfl
theorem sz101 : szOf Tryd.prog 101 = some 2 := by kernel_rfl
theorem by101 : byOf Tryd.prog 101 = some 32 := by kernel_rfl
theorem ze101 : zeOf Tryd.prog 101 = some (.agg #[.pointer none, .slice none 0 0]) := by kernel_rfl
theorem ag101 : aggOf Tryd.prog 101 = some true := by kernel_rfl
theorem con101 : Program.concrete Tryd.prog 101 = true := by kernel_rfl
theorem egt101 : Tryd.prog.eqGuardType Tryd.prog.depth 101 = false := by kernel_rfl
theorem sz102 : szOf Tryd.prog 102 = some 2 := by kernel_rfl
theorem by102 : byOf Tryd.prog 102 = some 32 := by kernel_rfl
theorem ze102 : zeOf Tryd.prog 102 = some (.agg #[.pointer none, .slice none 0 0]) := by kernel_rfl
theorem ag102 : aggOf Tryd.prog 102 = some true := by kernel_rfl
theorem con102 : Program.concrete Tryd.prog 102 = true := by kernel_rfl
theorem egt102 : Tryd.prog.eqGuardType Tryd.prog.depth 102 = false := by kernel_rfl
theorem sz103 : szOf Tryd.prog 103 = some 1 := by kernel_rfl
theorem by103 : byOf Tryd.prog 103 = some 8 := by kernel_rfl
theorem ze103 : zeOf Tryd.prog 103 = some (.nilFunc) := by kernel_rfl
theorem ag103 : aggOf Tryd.prog 103 = some false := by kernel_rfl
theorem con103 : Program.concrete Tryd.prog 103 = true := by kernel_rfl
theorem sz104 : szOf Tryd.prog 104 = some 1 := by kernel_rfl
theorem by104 : byOf Tryd.prog 104 = some 16 := by kernel_rfl
theorem ze104 : zeOf Tryd.prog 104 = some (.nilIface) := by kernel_rfl
theorem ag104 : aggOf Tryd.prog 104 = some false := by kernel_rfl
theorem con104 : Program.concrete Tryd.prog 104 = false := by kernel_rfl
theorem sz105 : szOf Tryd.prog 105 = some 1 := by kernel_rfl
theorem by105 : byOf Tryd.prog 105 = some 16 := by kernel_rfl
theorem ze105 : zeOf Tryd.prog 105 = some (.nilIface) := by kernel_rfl
theorem ag105 : aggOf Tryd.prog 105 = some false := by kernel_rfl
theorem con105 : Program.concrete Tryd.prog 105 = false := by kernel_rfl
theorem sz107 : szOf Tryd.prog 107 = some 1 := by kernel_rfl
theorem by107 : byOf Tryd.prog 107 = some 8 := by kernel_rfl
theorem ze107 : zeOf Tryd.prog 107 = some (.nilFunc) := by kernel_rfl
theorem ag107 : aggOf Tryd.prog 107 = some false := by kernel_rfl
theorem con107 : Program.concrete Tryd.prog 107 = true := by kernel_rfl
theorem sz108 : szOf Tryd.prog 108 = some 1 := by kernel_rfl
theorem by108 : byOf Tryd.prog 108 = some 8 := by kernel_rfl
theorem ze108 : zeOf Tryd.prog 108 = some (.nilFunc) := by kernel_rfl
theorem ag108 : aggOf Tryd.prog 108 = some false := by kernel_rfl
theorem con108 : Program.concrete Tryd.prog 108 = true := by kernel_rfl
theorem sz109 : szOf Tryd.prog 109 = some 1 := by kernel_rfl
theorem by109 : byOf Tryd.prog 109 = some 8 := by kernel_rfl
theorem ze109 : zeOf Tryd.prog 109 = some (.nilFunc) := by kernel_rfl
theorem ag109 : aggOf Tryd.prog 109 = some false := by kernel_rfl
theorem con109 : Program.concrete Tryd.prog 109 = true := by kernel_rfl
theorem sz110 : szOf Tryd.prog 110 = some 1 := by kernel_rfl
theorem by110 : byOf Tryd.prog 110 = some 8 := by kernel_rfl
theorem ze110 : zeOf Tryd.prog 110 = some (.nilFunc) := by kernel_rfl
theorem ag110 : aggOf Tryd.prog 110 = some false := by kernel_rfl
theorem con110 : Program.concrete Tryd.prog 110 = true := by kernel_rfl
theorem sz112 : szOf Tryd.prog 112 = some 1 := by kernel_rfl
theorem by112 : byOf Tryd.prog 112 = some 8 := by kernel_rfl
theorem ze112 : zeOf Tryd.prog 112 = some (.nilFunc) := by kernel_rfl
theorem ag112 : aggOf Tryd.prog 112 = some false := by kernel_rfl
theorem con112 : Program.concrete Tryd.prog 112 = true := by kernel_rfl
theorem sz113 : szOf Tryd.prog 113 = some 1 := by kernel_rfl
theorem by113 : byOf Tryd.prog 113 = some 8 := by kernel_rfl
theorem ze113 : zeOf Tryd.prog 113 = some (.nilFunc) := by kernel_rfl
theorem ag113 : aggOf Tryd.prog 113 = some false := by kernel_rfl
theorem con113 : Program.concrete Tryd.prog 113 = true := by kernel_rfl
theorem sz114 : szOf Tryd.prog 114 = some 24 := by kernel_rfl
theorem by114 : byOf Tryd.prog 114 = some 24 := by kernel_rfl
theorem ze114 : zeOf Tryd.prog 114 = some (.agg #[.int .u8 0, .int .u8 0, .int .u8 0, .int .u8 0, .int .u8 0, .int .u8 0, .int .u8 0, .int .u8 0, .int .u8 0, .int .u8 0, .int .u8 0, .int .u8 0, .int .u8 0, .int .u8 0, .int .u8 0, .int .u8 0, .int .u8 0, .int .u8 0, .int .u8 0, .int .u8 0, .int .u8 0, .int .u8 0, .int .u8 0, .int .u8 0]) := by kernel_rfl
theorem ag114 : aggOf Tryd.prog 114 = some true := by kernel_rfl
theorem con114 : Program.concrete Tryd.prog 114 = true := by kernel_rfl
theorem egt114 : Tryd.prog.eqGuardType Tryd.prog.depth 114 = false := by kernel_rfl
theorem sz115 : szOf Tryd.prog 115 = some 1 := by kernel_rfl
theorem by115 : byOf Tryd.prog 115 = some 8 := by kernel_rfl
theorem ze115 : zeOf Tryd.prog 115 = some (.int .u64 0) := by kernel_rfl
theorem ag115 : aggOf Tryd.prog 115 = some false := by kernel_rfl
theorem con115 : Program.concrete Tryd.prog 115 = true := by kernel_rfl
theorem sz116 : szOf Tryd.prog 116 = some 1 := by kernel_rfl
theorem by116 : byOf Tryd.prog 116 = some 8 := by kernel_rfl
theorem ze116 : zeOf Tryd.prog 116 = some (.nilFunc) := by kernel_rfl
theorem ag116 : aggOf Tryd.prog 116 = some false := by kernel_rfl
theorem con116 : Program.concrete Tryd.prog 116 = true := by kernel_rfl
theorem sz117 : szOf Tryd.prog 117 = some 1 := by kernel_rfl
theorem by117 : byOf Tryd.prog 117 = some 8 := by kernel_rfl
theorem ze117 : zeOf Tryd.prog 117 = some (.nilFunc) := by kernel_rfl
theorem ag117 : aggOf Tryd.prog 117 = some false := by kernel_rfl
theorem con117 : Program.concrete Tryd.prog 117 = true := by kernel_rfl
theorem sz119 : szOf Tryd.prog 119 = some 1 := by kernel_rfl
theorem by119 : byOf Tryd.prog 119 = some 8 := by kernel_rfl
theorem ze119 : zeOf Tryd.prog 119 = some (.nilFunc) := by kernel_rfl
theorem ag119 : aggOf Tryd.prog 119 = some false := by kernel_rfl
theorem con119 : Program.concrete Tryd.prog 119 = true := by kernel_rfl
theorem sz120 : szOf Tryd.prog 120 = some 1 := by kernel_rfl
theorem by120 : byOf Tryd.prog 120 = some 4 := by kernel_rfl
theorem ze120 : zeOf Tryd.prog 120 = some (.int .u32 0) := by kernel_rfl
theorem ag120 : aggOf Tryd.prog 120 = some false := by kernel_rfl
theorem con120 : Program.concrete Tryd.prog 120 = true := by kernel_rfl
theorem sz122 : szOf Tryd.prog 122 = some 1 := by kernel_rfl
theorem by122 : byOf Tryd.prog 122 = some 8 := by kernel_rfl
theorem ze122 : zeOf Tryd.prog 122 = some (.nilFunc) := by kernel_rfl
theorem ag122 : aggOf Tryd.prog 122 = some false := by kernel_rfl
theorem con122 : Program.concrete Tryd.prog 122 = true := by kernel_rfl
theorem sz124 : szOf Tryd.prog 124 = some 1 := by kernel_rfl
theorem by124 : byOf Tryd.prog 124 = some 8 := by kernel_rfl
theorem ze124 : zeOf Tryd.prog 124 = some (.nilFunc) := by kernel_rfl
theorem ag124 : aggOf Tryd.prog 124 = some false := by kernel_rfl
theorem con124 : Program.concrete Tryd.prog 124 = true := by kernel_rfl
theorem sz125 : szOf Tryd.prog 125 = some 1 := by kernel_rfl
theorem by125 : byOf Tryd.prog 125 = some 8 := by kernel_rfl
theorem ze125 : zeOf Tryd.prog 125 = some (.pointer none) := by kernel_rfl
theorem ag125 : aggOf Tryd.prog 125 = some false := by kernel_rfl
theorem con125 : Program.concrete Tryd.prog 125 = true := by kernel_rfl
theorem sz126 : szOf Tryd.prog 126 = some 1 := by kernel_rfl
theorem by126 : byOf Tryd.prog 126 = some 8 := by kernel_rfl
theorem ze126 : zeOf Tryd.prog 126 = some (.nilFunc) := by kernel_rfl
theorem ag126 : aggOf Tryd.prog 126 = some false := by kernel_rfl
theorem con126 : Program.concrete Tryd.prog 126 = true := by kernel_rfl
theorem sz127 : szOf Tryd.prog 127 = some 1 := by kernel_rfl
theorem by127 : byOf Tryd.prog 127 = some 8 := by kernel_rfl
theorem ze127 : zeOf Tryd.prog 127 = some (.nilFunc) := by kernel_rfl
theorem ag127 : aggOf Tryd.prog 127 = some false := by kernel_rfl
theorem con127 : Program.concrete Tryd.prog 127 = true := by kernel_rfl
theorem sz128 : szOf Tryd.prog 128 = some 1 := by kernel_rfl
theorem by128 : byOf Tryd.prog 128 = some 8 := by kernel_rfl
theorem ze128 : zeOf Tryd.prog 128 = some (.nilFunc) := by kernel_rfl
theorem ag128 : aggOf Tryd.prog 128 = some false := by kernel_rfl
theorem con128 : Program.concrete Tryd.prog 128 = true := by kernel_rfl
theorem sz129 : szOf Tryd.prog 129 = some 20 := by kernel_rfl
theorem by129 : byOf Tryd.prog 129 = some 160 := by kernel_rfl
theorem ze129 : zeOf Tryd.prog 129 = some (.agg #[.int .u64 0, .int .u64 0, .int .u64 0, .int .u64 0, .int .u64 0, .int .u64 0, .int .u64 0, .int .u64 0, .int .u64 0, .int .u64 0, .int .u64 0, .int .u64 0, .int .u64 0, .int .u64 0, .int .u64 0, .int .u64 0, .int .u64 0, .int .u64 0, .int .u64 0, .int .u64 0]) := by kernel_rfl
theorem ag129 : aggOf Tryd.prog 129 = some true := by kernel_rfl
theorem con129 : Program.concrete Tryd.prog 129 = true := by kernel_rfl
theorem egt129 : Tryd.prog.eqGuardType Tryd.prog.depth 129 = false := by kernel_rfl
theorem sz130 : szOf Tryd.prog 130 = some 65 := by kernel_rfl
theorem by130 : byOf Tryd.prog 130 = some 65 := by kernel_rfl
theorem ag130 : aggOf Tryd.prog 130 = some true := by kernel_rfl
theorem con130 : Program.concrete Tryd.prog 130 = true := by kernel_rfl
theorem egt130 : Tryd.prog.eqGuardType Tryd.prog.depth 130 = false := by kernel_rfl
theorem sz131 : szOf Tryd.prog 131 = some 1 := by kernel_rfl
theorem by131 : byOf Tryd.prog 131 = some 8 := by kernel_rfl
theorem ze131 : zeOf Tryd.prog 131 = some (.nilFunc) := by kernel_rfl
theorem ag131 : aggOf Tryd.prog 131 = some false := by kernel_rfl
theorem con131 : Program.concrete Tryd.prog 131 = true := by kernel_rfl
theorem sz132 : szOf Tryd.prog 132 = some 1 := by kernel_rfl
theorem by132 : byOf Tryd.prog 132 = some 8 := by kernel_rfl
theorem ze132 : zeOf Tryd.prog 132 = some (.nilFunc) := by kernel_rfl
theorem ag132 : aggOf Tryd.prog 132 = some false := by kernel_rfl
theorem con132 : Program.concrete Tryd.prog 132 = true := by kernel_rfl
theorem sz133 : szOf Tryd.prog 133 = some 1 := by kernel_rfl
theorem by133 : byOf Tryd.prog 133 = some 8 := by kernel_rfl
theorem ze133 : zeOf Tryd.prog 133 = some (.pointer none) := by kernel_rfl
theorem ag133 : aggOf Tryd.prog 133 = some false := by kernel_rfl
theorem con133 : Program.concrete Tryd.prog 133 = true := by kernel_rfl
theorem sz134 : szOf Tryd.prog 134 = some 1 := by kernel_rfl
theorem by134 : byOf Tryd.prog 134 = some 8 := by kernel_rfl
theorem ze134 : zeOf Tryd.prog 134 = some (.nilFunc) := by kernel_rfl
theorem ag134 : aggOf Tryd.prog 134 = some false := by kernel_rfl
theorem con134 : Program.concrete Tryd.prog 134 = true := by kernel_rfl
theorem sz135 : szOf Tryd.prog 135 = some 1 := by kernel_rfl
theorem by135 : byOf Tryd.prog 135 = some 8 := by kernel_rfl
theorem ze135 : zeOf Tryd.prog 135 = some (.nilFunc) := by kernel_rfl
theorem ag135 : aggOf Tryd.prog 135 = some false := by kernel_rfl
theorem con135 : Program.concrete Tryd.prog 135 = true := by kernel_rfl
theorem sz136 : szOf Tryd.prog 136 = some 256 := by kernel_rfl
theorem by136 : byOf Tryd.prog 136 = some 256 := by kernel_rfl
theorem ag136 : aggOf Tryd.prog 136 = some true := by kernel_rfl
theorem con136 : Program.concrete Tryd.prog 136 = true := by kernel_rfl
theorem egt136 : Tryd.prog.eqGuardType Tryd.prog.depth 136 = false := by kernel_rfl
theorem sz137 : szOf Tryd.prog 137 = some 2 := by kernel_rfl
theorem by137 : byOf Tryd.prog 137 = some 2 := by kernel_rfl
theorem ze137 : zeOf Tryd.prog 137 = some (.agg #[.int .u8 0, .int .u8 0]) := by kernel_rfl
theorem ag137 : aggOf Tryd.prog 137 = some true := by kernel_rfl
theorem con137 : Program.concrete Tryd.prog 137 = true := by kernel_rfl
theorem egt137 : Tryd.prog.eqGuardType Tryd.prog.depth 137 = false := by kernel_rfl
theorem sz138 : szOf Tryd.prog 138 = some 2 := by kernel_rfl
theorem by138 : byOf Tryd.prog 138 = some 2 := by kernel_rfl
theorem ze138 : zeOf Tryd.prog 138 = some (.agg #[.int .u8 0, .int .u8 0]) := by kernel_rfl
theorem ag138 : aggOf Tryd.prog 138 = some true := by kernel_rfl
theorem con138 : Program.concrete Tryd.prog 138 = true := by kernel_rfl
theorem egt138 : Tryd.prog.eqGuardType Tryd.prog.depth 138 = false := by kernel_rfl
theorem sz139 : szOf Tryd.prog 139 = some 32 := by kernel_rfl
theorem by139 : byOf Tryd.prog 139 = some 32 := by kernel_rfl
theorem ze139 : zeOf Tryd.prog 139 = some (.agg #[.int .u8 0, .int .u8 0, .int .u8 0, .int .u8 0, .int .u8 0, .int .u8 0, .int .u8 0, .int .u8 0, .int .u8 0, .int .u8 0, .int .u8 0, .int .u8 0, .int .u8 0, .int .u8 0, .int .u8 0, .int .u8 0, .int .u8 0, .int .u8 0, .int .u8 0, .int .u8 0, .int .u8 0, .int .u8 0, .int .u8 0, .int .u8 0, .int .u8 0, .int .u8 0, .int .u8 0, .int .u8 0, .int .u8 0, .int .u8 0, .int .u8 0, .int .u8 0]) := by kernel_rfl
theorem ag139 : aggOf Tryd.prog 139 = some true := by kernel_rfl
theorem con139 : Program.concrete Tryd.prog 139 = true := by kernel_rfl
theorem egt139 : Tryd.prog.eqGuardType Tryd.prog.depth 139 = false := by kernel_rfl
theorem sz140 : szOf Tryd.prog 140 = some 1 := by kernel_rfl
theorem by140 : byOf Tryd.prog 140 = some 8 := by kernel_rfl
theorem ze140 : zeOf Tryd.prog 140 = some (.nilFunc) := by kernel_rfl
theorem ag140 : aggOf Tryd.prog 140 = some false := by kernel_rfl
theorem con140 : Program.concrete Tryd.prog 140 = true := by kernel_rfl
theorem sz141 : szOf Tryd.prog 141 = some 1 := by kernel_rfl
theorem by141 : byOf Tryd.prog 141 = some 8 := by kernel_rfl
theorem ze141 : zeOf Tryd.prog 141 = some (.nilFunc) := by kernel_rfl
theorem ag141 : aggOf Tryd.prog 141 = some false := by kernel_rfl
theorem con141 : Program.concrete Tryd.prog 141 = true := by kernel_rfl
theorem sz142 : szOf Tryd.prog 142 = some 1 := by kernel_rfl
theorem by142 : byOf Tryd.prog 142 = some 8 := by kernel_rfl
theorem ze142 : zeOf Tryd.prog 142 = some (.nilFunc) := by kernel_rfl
theorem ag142 : aggOf Tryd.prog 142 = some false := by kernel_rfl
theorem con142 : Program.concrete Tryd.prog 142 = true := by kernel_rfl
theorem sz143 : szOf Tryd.prog 143 = some 32 := by kernel_rfl
theorem by143 : byOf Tryd.prog 143 = some 32 := by kernel_rfl
theorem ze143 : zeOf Tryd.prog 143 = some (.agg #[.int .u8 0, .int .u8 0, .int .u8 0, .int .u8 0, .int .u8 0, .int .u8 0, .int .u8 0, .int .u8 0, .int .u8 0, .int .u8 0, .int .u8 0, .int .u8 0, .int .u8 0, .int .u8 0, .int .u8 0, .int .u8 0, .int .u8 0, .int .u8 0, .int .u8 0, .int .u8 0, .int .u8 0, .int .u8 0, .int .u8 0, .int .u8 0, .int .u8 0, .int .u8 0, .int .u8 0, .int .u8 0, .int .u8 0, .int .u8 0, .int .u8 0, .int .u8 0]) := by kernel_rfl
theorem ag143 : aggOf Tryd.prog 143 = some true := by kernel_rfl
theorem con143 : Program.concrete Tryd.prog 143 = true := by kernel_rfl
theorem egt143 : Tryd.prog.eqGuardType Tryd.prog.depth 143 = false := by kernel_rfl
theorem sz144 : szOf Tryd.prog 144 = some 64 := by kernel_rfl
theorem by144 : byOf Tryd.prog 144 = some 64 := by kernel_rfl
theorem ze144 : zeOf Tryd.prog 144 = some (.agg #[.int .u8 0, .int .u8 0, .int .u8 0, .int .u8 0, .int .u8 0, .int .u8 0, .int .u8 0, .int .u8 0, .int .u8 0, .int .u8 0, .int .u8 0, .int .u8 0, .int .u8 0, .int .u8 0, .int .u8 0, .int .u8 0, .int .u8 0, .int .u8 0, .int .u8 0, .int .u8 0, .int .u8 0, .int .u8 0, .int .u8 0, .int .u8 0, .int .u8 0, .int .u8 0, .int .u8 0, .int .u8 0, .int .u8 0, .int .u8 0, .int .u8 0, .int .u8 0, .int .u8 0, .int .u8 0, .int .u8 0, .int .u8 0, .int .u8 0, .int .u8 0, .int .u8 0, .int .u8 0, .int .u8 0, .int .u8 0, .int .u8 0, .int .u8 0, .int .u8 0, .int .u8 0, .int .u8 0, .int .u8 0, .int .u8 0, .int .u8 0, .int .u8 0, .int .u8 0, .int .u8 0, .int .u8 0, .int .u8 0, .int .u8 0, .int .u8 0, .int .u8 0, .int .u8 0, .int .u8 0, .int .u8 0, .int .u8 0, .int .u8 0, .int .u8 0]) := by kernel_rfl
theorem ag144 : aggOf Tryd.prog 144 = some true := by kernel_rfl
theorem con144 : Program.concrete Tryd.prog 144 = true := by kernel_rfl
theorem egt144 : Tryd.prog.eqGuardType Tryd.prog.depth 144 = false := by kernel_rfl
theorem sz145 : szOf Tryd.prog 145 = some 4 := by kernel_rfl
theorem by145 : byOf Tryd.prog 145 = some 40 := by kernel_rfl
theorem ze145 : zeOf Tryd.prog 145 = some (.agg #[.pointer none, .pointer none, .pointer none, .string .empty]) := by kernel_rfl
theorem ag145 : aggOf Tryd.prog 145 = some true := by kernel_rfl
theorem con145 : Program.concrete Tryd.prog 145 = true := by kernel_rfl
theorem egt145 : Tryd.prog.eqGuardType Tryd.prog.depth 145 = false := by kernel_rfl
theorem sz146 : szOf Tryd.prog 146 = some 4 := by kernel_rfl
theorem by146 : byOf Tryd.prog 146 = some 40 := by kernel_rfl
theorem ze146 : zeOf Tryd.prog 146 = some (.agg #[.pointer none, .pointer none, .pointer none, .string .empty]) := by kernel_rfl
theorem ag146 : aggOf Tryd.prog 146 = some true := by kernel_rfl
theorem con146 : Program.concrete Tryd.prog 146 = true := by kernel_rfl
theorem egt146 : Tryd.prog.eqGuardType Tryd.prog.depth 146 = false := by kernel_rfl
theorem sz147 : szOf Tryd.prog 147 = some 0 := by kernel_rfl
theorem by147 : byOf Tryd.prog 147 = some 0 := by kernel_rfl
theorem ze147 : zeOf Tryd.prog 147 = some (.agg #[]) := by kernel_rfl
theorem ag147 : aggOf Tryd.prog 147 = some true := by kernel_rfl
theorem con147 : Program.concrete Tryd.prog 147 = true := by kernel_rfl
theorem egt147 : Tryd.prog.eqGuardType Tryd.prog.depth 147 = false := by kernel_rfl
theorem sz148 : szOf Tryd.prog 148 = some 0 := by kernel_rfl
theorem by148 : byOf Tryd.prog 148 = some 0 := by kernel_rfl
theorem ze148 : zeOf Tryd.prog 148 = some (.agg #[]) := by kernel_rfl
theorem ag148 : aggOf Tryd.prog 148 = some true := by kernel_rfl
theorem con148 : Program.concrete Tryd.prog 148 = true := by kernel_rfl
theorem egt148 : Tryd.prog.eqGuardType Tryd.prog.depth 148 = false := by kernel_rfl
theorem sz149 : szOf Tryd.prog 149 = some 0 := by kernel_rfl
theorem by149 : byOf Tryd.prog 149 = some 0 := by kernel_rfl
theorem ze149 : zeOf Tryd.prog 149 = some (.agg #[]) := by kernel_rfl
theorem ag149 : aggOf Tryd.prog 149 = some true := by kernel_rfl
theorem con149 : Program.concrete Tryd.prog 149 = true := by kernel_rfl
theorem egt149 : Tryd.prog.eqGuardType Tryd.prog.depth 149 = false := by kernel_rfl
theorem sz150 : szOf Tryd.prog 150 = some 1 := by kernel_rfl
theorem by150 : byOf Tryd.prog 150 = some 1 := by kernel_rfl
theorem ze150 : zeOf Tryd.prog 150 = some (.int .u8 0) := by kernel_rfl
theorem ag150 : aggOf Tryd.prog 150 = some false := by kernel_rfl
theorem con150 : Program.concrete Tryd.prog 150 = true := by kernel_rfl
theorem sz151 : szOf Tryd.prog 151 = some 1 := by kernel_rfl
theorem by151 : byOf Tryd.prog 151 = some 1 := by kernel_rfl
theorem ze151 : zeOf Tryd.prog 151 = some (.int .u8 0) := by kernel_rfl
theorem ag151 : aggOf Tryd.prog 151 = some false := by kernel_rfl
theorem con151 : Program.concrete Tryd.prog 151 = true := by kernel_rfl
theorem sz152 : szOf Tryd.prog 152 = some 1 := by kernel_rfl
theorem by152 : byOf Tryd.prog 152 = some 8 := by kernel_rfl
theorem ze152 : zeOf Tryd.prog 152 = some (.nilFunc) := by kernel_rfl
theorem ag152 : aggOf Tryd.prog 152 = some false := by kernel_rfl
theorem con152 : Program.concrete Tryd.prog 152 = true := by kernel_rfl
theorem sz153 : szOf Tryd.prog 153 = some 1 := by kernel_rfl
theorem by153 : byOf Tryd.prog 153 = some 4 := by kernel_rfl
theorem ze153 : zeOf Tryd.prog 153 = some (.int .i32 0) := by kernel_rfl
theorem ag153 : aggOf Tryd.prog 153 = some false := by kernel_rfl
theorem con153 : Program.concrete Tryd.prog 153 = true := by kernel_rfl
theorem sz154 : szOf Tryd.prog 154 = some 1 := by kernel_rfl
theorem by154 : byOf Tryd.prog 154 = some 4 := by kernel_rfl
theorem ze154 : zeOf Tryd.prog 154 = some (.int .i32 0) := by kernel_rfl
theorem ag154 : aggOf Tryd.prog 154 = some false := by kernel_rfl
theorem con154 : Program.concrete Tryd.prog 154 = true := by kernel_rfl
theorem sz155 : szOf Tryd.prog 155 = some 11 := by kernel_rfl
theorem by155 : byOf Tryd.prog 155 = some 48 := by kernel_rfl
theorem ze155 : zeOf Tryd.prog 155 = some (.agg #[.int .u64 0, .int .u64 0, .int .u32 0, .int .u8 0, .int .u8 0, .int .u8 0, .int .u8 0, .nilFunc, .pointer none, .int .i32 0, .int .i32 0]) := by kernel_rfl
theorem ag155 : aggOf Tryd.prog 155 = some true := by kernel_rfl
theorem con155 : Program.concrete Tryd.prog 155 = true := by kernel_rfl
theorem egt155 : Tryd.prog.eqGuardType Tryd.prog.depth 155 = false := by kernel_rfl
theorem sz156 : szOf Tryd.prog 156 = some 11 := by kernel_rfl
theorem by156 : byOf Tryd.prog 156 = some 48 := by kernel_rfl
theorem ze156 : zeOf Tryd.prog 156 = some (.agg #[.int .u64 0, .int .u64 0, .int .u32 0, .int .u8 0, .int .u8 0, .int .u8 0, .int .u8 0, .nilFunc, .pointer none, .int .i32 0, .int .i32 0]) := by kernel_rfl
theorem ag156 : aggOf Tryd.prog 156 = some true := by kernel_rfl
theorem con156 : Program.concrete Tryd.prog 156 = true := by kernel_rfl
theorem egt156 : Tryd.prog.eqGuardType Tryd.prog.depth 156 = false := by kernel_rfl
theorem fld7_0 (c0 c1 c2 c3 : AVal) : pField Tryd.prog 7 (.agg [c0, c1, c2, c3]) 0 = ⟨0 < 4, c0⟩ := by kernel_rfl
theorem fa7_0 (l : AM.Loc) (o : Nat) : pFieldAddr Tryd.prog 7 (.ptr l o) 0 = ⟨1 ≠ 0, .ptr l (o + 0)⟩ := by kernel_rfl
theorem fld7_1 (c0 c1 c2 c3 : AVal) : pField Tryd.prog 7 (.agg [c0, c1, c2, c3]) 1 = ⟨1 < 4, c1⟩ := by kernel_rfl
theorem fa7_1 (l : AM.Loc) (o : Nat) : pFieldAddr Tryd.prog 7 (.ptr l o) 1 = ⟨1 ≠ 0, .ptr l (o + 1)⟩ := by kernel_rfl
theorem fld7_2 (c0 c1 c2 c3 : AVal) : pField Tryd.prog 7 (.agg [c0, c1, c2, c3]) 2 = ⟨2 < 4, c2⟩ := by kernel_rfl
theorem fa7_2 (l : AM.Loc) (o : Nat) : pFieldAddr Tryd.prog 7 (.ptr l o) 2 = ⟨1 ≠ 0, .ptr l (o + 2)⟩ := by kernel_rfl
theorem fld7_3 (c0 c1 c2 c3 : AVal) : pField Tryd.prog 7 (.agg [c0, c1, c2, c3]) 3 = ⟨3 < 4, c3⟩ := by kernel_rfl
theorem fa7_3 (l : AM.Loc) (o : Nat) : pFieldAddr Tryd.prog 7 (.ptr l o) 3 = ⟨1 ≠ 0, .ptr l (o + 3)⟩ := by kernel_rfl
theorem fld13_0 (c0 c1 : AVal) : pField Tryd.prog 13 (.agg [c0, c1]) 0 = ⟨0 < 2, c0⟩ := by kernel_rfl
theorem fa13_0 (l : AM.Loc) (o : Nat) : pFieldAddr Tryd.prog 13 (.ptr l o) 0 = ⟨1 ≠ 0, .ptr l (o + 0)⟩ := by kernel_rfl
theorem fld13_1 (c0 c1 : AVal) : pField Tryd.prog 13 (.agg [c0, c1]) 1 = ⟨1 < 2, c1⟩ := by kernel_rfl
theorem fa13_1 (l : AM.Loc) (o : Nat) : pFieldAddr Tryd.prog 13 (.ptr l o) 1 = ⟨1 ≠ 0, .ptr l (o + 1)⟩ := by kernel_rfl
theorem fld18_0 (c0 : AVal) : pField Tryd.prog 18 (.agg [c0]) 0 = ⟨0 < 1, c0⟩ := by kernel_rfl
theorem fa18_0 (l : AM.Loc) (o : Nat) : pFieldAddr Tryd.prog 18 (.ptr l o) 0 = ⟨1 ≠ 0, .ptr l (o + 0)⟩ := by kernel_rfl
theorem fld23_0 (c0 c1 c2 : AVal) : pField Tryd.prog 23 (.agg [c0, c1, c2]) 0 = ⟨0 < 3, c0⟩ := by kernel_rfl
theorem fa23_0 (l : AM.Loc) (o : Nat) : pFieldAddr Tryd.prog 23 (.ptr l o) 0 = ⟨1 ≠ 0, .ptr l (o + 0)⟩ := by kernel_rfl
theorem fld23_1 (c0 c1 c2 : AVal) : pField Tryd.prog 23 (.agg [c0, c1, c2]) 1 = ⟨1 < 3, c1⟩ := by kernel_rfl
theorem fa23_1 (l : AM.Loc) (o : Nat) : pFieldAddr Tryd.prog 23 (.ptr l o) 1 = ⟨1 ≠ 0, .ptr l (o + 1)⟩ := by kernel_rfl
theorem fld23_2 (c0 c1 c2 : AVal) : pField Tryd.prog 23 (.agg [c0, c1, c2]) 2 = ⟨2 < 3, c2⟩ := by kernel_rfl
theorem fa23_2 (l : AM.Loc) (o : Nat) : pFieldAddr Tryd.prog 23 (.ptr l o) 2 = ⟨1 ≠ 0, .ptr l (o + 2)⟩ := by kernel_rfl
theorem fld24_0 (c0 c1 c2 : AVal) : pField Tryd.prog 24 (.agg [c0, c1, c2]) 0 = ⟨0 < 3, c0⟩ := by kernel_rfl
theorem fa24_0 (l : AM.Loc) (o : Nat) : pFieldAddr Tryd.prog 24 (.ptr l o) 0 = ⟨1 ≠ 0, .ptr l (o + 0)⟩ := by kernel_rfl
theorem fld24_1 (c0 c1 c2 : AVal) : pField Tryd.prog 24 (.agg [c0, c1, c2]) 1 = ⟨1 < 3, c1⟩ := by kernel_rfl
theorem fa24_1 (l : AM.Loc) (o : Nat) : pFieldAddr Tryd.prog 24 (.ptr l o) 1 = ⟨1 ≠ 0, .ptr l (o + 1)⟩ := by kernel_rfl
theorem fld24_2 (c0 c1 c2 : AVal) : pField Tryd.prog 24 (.agg [c0, c1, c2]) 2 = ⟨2 < 3, c2⟩ := by kernel_rfl
theorem fa24_2 (l : AM.Loc) (o : Nat) : pFieldAddr Tryd.prog 24 (.ptr l o) 2 = ⟨1 ≠ 0, .ptr l (o + 2)⟩ := by kernel_rfl
theorem fld25_0 (c0 c1 : AVal) : pField Tryd.prog 25 (.agg [c0, c1]) 0 = ⟨0 < 2, c0⟩ := by kernel_rfl
theorem fa25_0 (l : AM.Loc) (o : Nat) : pFieldAddr Tryd.prog 25 (.ptr l o) 0 = ⟨1 ≠ 0, .ptr l (o + 0)⟩ := by kernel_rfl
theorem fld25_1 (c0 c1 : AVal) : pField Tryd.prog 25 (.agg [c0, c1]) 1 = ⟨1 < 2, c1⟩ := by kernel_rfl
theorem fa25_1 (l : AM.Loc) (o : Nat) : pFieldAddr Tryd.prog 25 (.ptr l o) 1 = ⟨1 ≠ 0, .ptr l (o + 1)⟩ := by kernel_rfl
theorem fld26_0 (c0 c1 : AVal) : pField Tryd.prog 26 (.agg [c0, c1]) 0 = ⟨0 < 2, c0⟩ := by kernel_rfl
theorem fa26_0 (l : AM.Loc) (o : Nat) : pFieldAddr Tryd.prog 26 (.ptr l o) 0 = ⟨1 ≠ 0, .ptr l (o + 0)⟩ := by kernel_rfl
theorem fld26_1 (c0 c1 : AVal) : pField Tryd.prog 26 (.agg [c0, c1]) 1 = ⟨1 < 2, c1⟩ := by kernel_rfl
theorem fa26_1 (l : AM.Loc) (o : Nat) : pFieldAddr Tryd.prog 26 (.ptr l o) 1 = ⟨1 ≠ 0, .ptr l (o + 1)⟩ := by kernel_rfl
theorem eqv26 (a0 b0 : Int) (a1 b1 : Int) : (eqA Tryd.prog 40 26 (.agg [.int .u8 a0, .int .u8 a1]) (.agg [.int .u8 b0, .int .u8 b1])).val = .bool (decide (a0 = b0) && (decide (a1 = b1) && true)) := by kernel_rfl
theorem eqp26 (a0 b0 : Int) (a1 b1 : Int) : (eqA Tryd.prog 40 26 (.agg [.int .u8 a0, .int .u8 a1]) (.agg [.int .u8 b0, .int .u8 b1])).pre = ((0 < 2) ∧ (0 < 2) ∧ True ∧ ((1 < 2) ∧ (1 < 2) ∧ True ∧ True)) := by kernel_rfl
theorem eq26 (a0 b0 : Int) (a1 b1 : Int) : pAggEq Tryd.prog .eql 26 (.agg [.int .u8 a0, .int .u8 a1]) (.agg [.int .u8 b0, .int .u8 b1]) = ⟨True, .bool (decide (a0 = b0) && (decide (a1 = b1) && true))⟩ := by
  simp only [pAggEq, eqv26, eqp26, egt26, PR.mk.injEq, and_true]; decide
theorem ne26 (a0 b0 : Int) (a1 b1 : Int) : pAggEq Tryd.prog .neq 26 (.agg [.int .u8 a0, .int .u8 a1]) (.agg [.int .u8 b0, .int .u8 b1]) = ⟨True, .bool (!(decide (a0 = b0) && (decide (a1 = b1) && true)))⟩ := by
  simp only [pAggEq, eqv26, eqp26, egt26, PR.mk.injEq, and_true]; decide
theorem fld27_0 (c0 c1 c2 : AVal) : pField Tryd.prog 27 (.agg [c0, c1, c2]) 0 = ⟨0 < 3, c0⟩ := by kernel_rfl
theorem fa27_0 (l : AM.Loc) (o : Nat) : pFieldAddr Tryd.prog 27 (.ptr l o) 0 = ⟨1 ≠ 0, .ptr l (o + 0)⟩ := by kernel_rfl
theorem fld27_1 (c0 c1 c2 : AVal) : pField Tryd.prog 27 (.agg [c0, c1, c2]) 1 = ⟨1 < 3, c1⟩ := by kernel_rfl
theorem fa27_1 (l : AM.Loc) (o : Nat) : pFieldAddr Tryd.prog 27 (.ptr l o) 1 = ⟨1 ≠ 0, .ptr l (o + 1)⟩ := by kernel_rfl
theorem fld27_2 (c0 c1 c2 : AVal) : pField Tryd.prog 27 (.agg [c0, c1, c2]) 2 = ⟨2 < 3, c2⟩ := by kernel_rfl
theorem fa27_2 (l : AM.Loc) (o : Nat) : pFieldAddr Tryd.prog 27 (.ptr l o) 2 = ⟨1 ≠ 0, .ptr l (o + 2)⟩ := by kernel_rfl
theorem fld28_0 (c0 c1 c2 : AVal) : pField Tryd.prog 28 (.agg [c0, c1, c2]) 0 = ⟨0 < 3, c0⟩ := by kernel_rfl
theorem fa28_0 (l : AM.Loc) (o : Nat) : pFieldAddr Tryd.prog 28 (.ptr l o) 0 = ⟨1 ≠ 0, .ptr l (o + 0)⟩ := by kernel_rfl
theorem fld28_1 (c0 c1 c2 : AVal) : pField Tryd.prog 28 (.agg [c0, c1, c2]) 1 = ⟨1 < 3, c1⟩ := by kernel_rfl
theorem fa28_1 (l : AM.Loc) (o : Nat) : pFieldAddr Tryd.prog 28 (.ptr l o) 1 = ⟨1 ≠ 0, .ptr l (o + 1)⟩ := by kernel_rfl
theorem fld28_2 (c0 c1 c2 : AVal) : pField Tryd.prog 28 (.agg [c0, c1, c2]) 2 = ⟨2 < 3, c2⟩ := by kernel_rfl
theorem fa28_2 (l : AM.Loc) (o : Nat) : pFieldAddr Tryd.prog 28 (.ptr l o) 2 = ⟨1 ≠ 0, .ptr l (o + 2)⟩ := by kernel_rfl
theorem eqv28 (a0 b0 : Bool) (a1 b1 : List UInt8) (a2 b2 : Int) : (eqA Tryd.prog 40 28 (.agg [.bool a0, .str a1, .int .i64 a2]) (.agg [.bool b0, .str b1, .int .i64 b2])).val = .bool ((a0 == b0) && (decide (a1 = b1) && (decide (a2 = b2) && true))) := by kernel_rfl
theorem eqp28 (a0 b0 : Bool) (a1 b1 : List UInt8) (a2 b2 : Int) : (eqA Tryd.prog 40 28 (.agg [.bool a0, .str a1, .int .i64 a2]) (.agg [.bool b0, .str b1, .int .i64 b2])).pre = ((0 < 3) ∧ (0 < 3) ∧ True ∧ ((1 < 3) ∧ (1 < 3) ∧ True ∧ ((2 < 3) ∧ (2 < 3) ∧ True ∧ True))) := by kernel_rfl
theorem eq28 (a0 b0 : Bool) (a1 b1 : List UInt8) (a2 b2 : Int) : pAggEq Tryd.prog .eql 28 (.agg [.bool a0, .str a1, .int .i64 a2]) (.agg [.bool b0, .str b1, .int .i64 b2]) = ⟨True, .bool ((a0 == b0) && (decide (a1 = b1) && (decide (a2 = b2) && true)))⟩ := by
  simp only [pAggEq, eqv28, eqp28, egt28, PR.mk.injEq, and_true]; decide
theorem ne28 (a0 b0 : Bool) (a1 b1 : List UInt8) (a2 b2 : Int) : pAggEq Tryd.prog .neq 28 (.agg [.bool a0, .str a1, .int .i64 a2]) (.agg [.bool b0, .str b1, .int .i64 b2]) = ⟨True, .bool (!((a0 == b0) && (decide (a1 = b1) && (decide (a2 = b2) && true))))⟩ := by
  simp only [pAggEq, eqv28, eqp28, egt28, PR.mk.injEq, and_true]; decide
theorem fld101_0 (c0 c1 : AVal) : pField Tryd.prog 101 (.agg [c0, c1]) 0 = ⟨0 < 2, c0⟩ := by kernel_rfl
theorem fa101_0 (l : AM.Loc) (o : Nat) : pFieldAddr Tryd.prog 101 (.ptr l o) 0 = ⟨1 ≠ 0, .ptr l (o + 0)⟩ := by kernel_rfl
theorem fld101_1 (c0 c1 : AVal) : pField Tryd.prog 101 (.agg [c0, c1]) 1 = ⟨1 < 2, c1⟩ := by kernel_rfl
theorem fa101_1 (l : AM.Loc) (o : Nat) : pFieldAddr Tryd.prog 101 (.ptr l o) 1 = ⟨1 ≠ 0, .ptr l (o + 1)⟩ := by kernel_rfl
theorem fld137_0 (c0 c1 : AVal) : pField Tryd.prog 137 (.agg [c0, c1]) 0 = ⟨0 < 2, c0⟩ := by kernel_rfl
theorem fa137_0 (l : AM.Loc) (o : Nat) : pFieldAddr Tryd.prog 137 (.ptr l o) 0 = ⟨1 ≠ 0, .ptr l (o + 0)⟩ := by kernel_rfl
theorem fld137_1 (c0 c1 : AVal) : pField Tryd.prog 137 (.agg [c0, c1]) 1 = ⟨1 < 2, c1⟩ := by kernel_rfl
theorem fa137_1 (l : AM.Loc) (o : Nat) : pFieldAddr Tryd.prog 137 (.ptr l o) 1 = ⟨1 ≠ 0, .ptr l (o + 1)⟩ := by kernel_rfl
theorem fld145_0 (c0 c1 c2 c3 : AVal) : pField Tryd.prog 145 (.agg [c0, c1, c2, c3]) 0 = ⟨0 < 4, c0⟩ := by kernel_rfl
theorem fa145_0 (l : AM.Loc) (o : Nat) : pFieldAddr Tryd.prog 145 (.ptr l o) 0 = ⟨1 ≠ 0, .ptr l (o + 0)⟩ := by kernel_rfl
theorem fld145_1 (c0 c1 c2 c3 : AVal) : pField Tryd.prog 145 (.agg [c0, c1, c2, c3]) 1 = ⟨1 < 4, c1⟩ := by kernel_rfl
theorem fa145_1 (l : AM.Loc) (o : Nat) : pFieldAddr Tryd.prog 145 (.ptr l o) 1 = ⟨1 ≠ 0, .ptr l (o + 1)⟩ := by kernel_rfl
theorem fld145_2 (c0 c1 c2 c3 : AVal) : pField Tryd.prog 145 (.agg [c0, c1, c2, c3]) 2 = ⟨2 < 4, c2⟩ := by kernel_rfl
theorem fa145_2 (l : AM.Loc) (o : Nat) : pFieldAddr Tryd.prog 145 (.ptr l o) 2 = ⟨1 ≠ 0, .ptr l (o + 2)⟩ := by kernel_rfl
theorem fld145_3 (c0 c1 c2 c3 : AVal) : pField Tryd.prog 145 (.agg [c0, c1, c2, c3]) 3 = ⟨3 < 4, c3⟩ := by kernel_rfl
theorem fa145_3 (l : AM.Loc) (o : Nat) : pFieldAddr Tryd.prog 145 (.ptr l o) 3 = ⟨1 ≠ 0, .ptr l (o + 3)⟩ := by kernel_rfl
theorem fld155_0 (c0 c1 c2 c3 c4 c5 c6 c7 c8 c9 c10 : AVal) : pField Tryd.prog 155 (.agg [c0, c1, c2, c3, c4, c5, c6, c7, c8, c9, c10]) 0 = ⟨0 < 11, c0⟩ := by kernel_rfl
theorem fa155_0 (l : AM.Loc) (o : Nat) : pFieldAddr Tryd.prog 155 (.ptr l o) 0 = ⟨1 ≠ 0, .ptr l (o + 0)⟩ := by kernel_rfl
theorem fld155_1 (c0 c1 c2 c3 c4 c5 c6 c7 c8 c9 c10 : AVal) : pField Tryd.prog 155 (.agg [c0, c1, c2, c3, c4, c5, c6, c7, c8, c9, c10]) 1 = ⟨1 < 11, c1⟩ := by kernel_rfl
theorem fa155_1 (l : AM.Loc) (o : Nat) : pFieldAddr Tryd.prog 155 (.ptr l o) 1 = ⟨1 ≠ 0, .ptr l (o + 1)⟩ := by kernel_rfl
theorem fld155_2 (c0 c1 c2 c3 c4 c5 c6 c7 c8 c9 c10 : AVal) : pField Tryd.prog 155 (.agg [c0, c1, c2, c3, c4, c5, c6, c7, c8, c9, c10]) 2 = ⟨2 < 11, c2⟩ := by kernel_rfl
theorem fa155_2 (l : AM.Loc) (o : Nat) : pFieldAddr Tryd.prog 155 (.ptr l o) 2 = ⟨1 ≠ 0, .ptr l (o + 2)⟩ := by kernel_rfl
theorem fld155_3 (c0 c1 c2 c3 c4 c5 c6 c7 c8 c9 c10 : AVal) : pField Tryd.prog 155 (.agg [c0, c1, c2, c3, c4, c5, c6, c7, c8, c9, c10]) 3 = ⟨3 < 11, c3⟩ := by kernel_rfl
theorem fa155_3 (l : AM.Loc) (o : Nat) : pFieldAddr Tryd.prog 155 (.ptr l o) 3 = ⟨1 ≠ 0, .ptr l (o + 3)⟩ := by kernel_rfl
theorem fld155_4 (c0 c1 c2 c3 c4 c5 c6 c7 c8 c9 c10 : AVal) : pField Tryd.prog 155 (.agg [c0, c1, c2, c3, c4, c5, c6, c7, c8, c9, c10]) 4 = ⟨4 < 11, c4⟩ := by kernel_rfl
theorem fa155_4 (l : AM.Loc) (o : Nat) : pFieldAddr Tryd.prog 155 (.ptr l o) 4 = ⟨1 ≠ 0, .ptr l (o + 4)⟩ := by kernel_rfl
theorem fld155_5 (c0 c1 c2 c3 c4 c5 c6 c7 c8 c9 c10 : AVal) : pField Tryd.prog 155 (.agg [c0, c1, c2, c3, c4, c5, c6, c7, c8, c9, c10]) 5 = ⟨5 < 11, c5⟩ := by kernel_rfl
theorem fa155_5 (l : AM.Loc) (o : Nat) : pFieldAddr Tryd.prog 155 (.ptr l o) 5 = ⟨1 ≠ 0, .ptr l (o + 5)⟩ := by kernel_rfl
theorem fld155_6 (c0 c1 c2 c3 c4 c5 c6 c7 c8 c9 c10 : AVal) : pField Tryd.prog 155 (.agg [c0, c1, c2, c3, c4, c5, c6, c7, c8, c9, c10]) 6 = ⟨6 < 11, c6⟩ := by kernel_rfl
theorem fa155_6 (l : AM.Loc) (o : Nat) : pFieldAddr Tryd.prog 155 (.ptr l o) 6 = ⟨1 ≠ 0, .ptr l (o + 6)⟩ := by kernel_rfl
theorem fld155_7 (c0 c1 c2 c3 c4 c5 c6 c7 c8 c9 c10 : AVal) : pField Tryd.prog 155 (.agg [c0, c1, c2, c3, c4, c5, c6, c7, c8, c9, c10]) 7 = ⟨7 < 11, c7⟩ := by kernel_rfl
theorem fa155_7 (l : AM.Loc) (o : Nat) : pFieldAddr Tryd.prog 155 (.ptr l o) 7 = ⟨1 ≠ 0, .ptr l (o + 7)⟩ := by kernel_rfl
theorem fld155_8 (c0 c1 c2 c3 c4 c5 c6 c7 c8 c9 c10 : AVal) : pField Tryd.prog 155 (.agg [c0, c1, c2, c3, c4, c5, c6, c7, c8, c9, c10]) 8 = ⟨8 < 11, c8⟩ := by kernel_rfl
theorem fa155_8 (l : AM.Loc) (o : Nat) : pFieldAddr Tryd.prog 155 (.ptr l o) 8 = ⟨1 ≠ 0, .ptr l (o + 8)⟩ := by kernel_rfl
theorem fld155_9 (c0 c1 c2 c3 c4 c5 c6 c7 c8 c9 c10 : AVal) : pField Tryd.prog 155 (.agg [c0, c1, c2, c3, c4, c5, c6, c7, c8, c9, c10]) 9 = ⟨9 < 11, c9⟩ := by kernel_rfl
theorem fa155_9 (l : AM.Loc) (o : Nat) : pFieldAddr Tryd.prog 155 (.ptr l o) 9 = ⟨1 ≠ 0, .ptr l (o + 9)⟩ := by kernel_rfl
theorem fld155_10 (c0 c1 c2 c3 c4 c5 c6 c7 c8 c9 c10 : AVal) : pField Tryd.prog 155 (.agg [c0, c1, c2, c3, c4, c5, c6, c7, c8, c9, c10]) 10 = ⟨10 < 11, c10⟩ := by kernel_rfl
theorem fa155_10 (l : AM.Loc) (o : Nat) : pFieldAddr Tryd.prog 155 (.ptr l o) 10 = ⟨1 ≠ 0, .ptr l (o + 10)⟩ := by kernel_rfl
theorem bld28_ : pBuild Tryd.prog 28 [] = ⟨True, .agg [.bool false, .str [], .int .i64 0]⟩ := by kernel_rfl
theorem bld28_1 (x1 : List UInt8) : pBuild Tryd.prog 28 [(1, .str x1)] = ⟨True, .agg [.bool false, .str x1, .int .i64 0]⟩ := by kernel_rfl
theorem bld28_0_1_2 (x0 : Bool) (x1 : List UInt8) (x2 : Int) : pBuild Tryd.prog 28 [(0, .bool x0), (1, .str x1), (2, .int .i64 x2)] = ⟨True, .agg [.bool x0, .str x1, .int .i64 x2]⟩ := by kernel_rfl
theorem mixed : Tryd.prog.follows .mixedOrders = true := by kernel_rfl
end Go.Proofs.YtnaioficflbioaaDoor
