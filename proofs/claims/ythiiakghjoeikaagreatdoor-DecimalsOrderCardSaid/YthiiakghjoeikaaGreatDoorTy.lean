/-
  Facts on the types of this seat's translation, by program (gen_ty.py): cells, bytes, zero values.
  Conditions: none.
-/
import Derived.Test.YthiiakghjoeikaaGreatDoorAmV
import Derived.Test.YthiiakghjoeikaaGreatDoorRows
import Derived.KernelRfl
set_option linter.unusedSimpArgs false
set_option linter.unnecessarySimpa false
set_option linter.unusedVariables false
namespace Go.Proofs.YthiiakghjoeikaaGreatDoor
open Go.AM

theorem sz1 : szOf Tryz.prog 1 = some 1 := by kernel_rfl
theorem by1 : byOf Tryz.prog 1 = some 8 := by kernel_rfl
theorem ze1 : zeOf Tryz.prog 1 = some (.nilFunc) := by kernel_rfl
theorem ag1 : aggOf Tryz.prog 1 = some false := by kernel_rfl
theorem con1 : Program.concrete Tryz.prog 1 = true := by kernel_rfl
theorem sz2 : szOf Tryz.prog 2 = some 1 := by kernel_rfl
theorem by2 : byOf Tryz.prog 2 = some 8 := by kernel_rfl
theorem ze2 : zeOf Tryz.prog 2 = some (.int .i64 0) := by kernel_rfl
theorem ag2 : aggOf Tryz.prog 2 = some false := by kernel_rfl
theorem con2 : Program.concrete Tryz.prog 2 = true := by kernel_rfl
theorem sz3 : szOf Tryz.prog 3 = some 1 := by kernel_rfl
theorem by3 : byOf Tryz.prog 3 = some 8 := by kernel_rfl
theorem ze3 : zeOf Tryz.prog 3 = some (.int .i64 0) := by kernel_rfl
theorem ag3 : aggOf Tryz.prog 3 = some false := by kernel_rfl
theorem con3 : Program.concrete Tryz.prog 3 = true := by kernel_rfl
theorem sz4 : szOf Tryz.prog 4 = some 1 := by kernel_rfl
theorem by4 : byOf Tryz.prog 4 = some 1 := by kernel_rfl
theorem ze4 : zeOf Tryz.prog 4 = some (.bool false) := by kernel_rfl
theorem ag4 : aggOf Tryz.prog 4 = some false := by kernel_rfl
theorem con4 : Program.concrete Tryz.prog 4 = true := by kernel_rfl
theorem sz5 : szOf Tryz.prog 5 = some 1 := by kernel_rfl
theorem by5 : byOf Tryz.prog 5 = some 1 := by kernel_rfl
theorem ze5 : zeOf Tryz.prog 5 = some (.int .u8 0) := by kernel_rfl
theorem ag5 : aggOf Tryz.prog 5 = some false := by kernel_rfl
theorem con5 : Program.concrete Tryz.prog 5 = true := by kernel_rfl
theorem sz6 : szOf Tryz.prog 6 = some 1 := by kernel_rfl
theorem by6 : byOf Tryz.prog 6 = some 1 := by kernel_rfl
theorem ze6 : zeOf Tryz.prog 6 = some (.int .u8 0) := by kernel_rfl
theorem ag6 : aggOf Tryz.prog 6 = some false := by kernel_rfl
theorem con6 : Program.concrete Tryz.prog 6 = true := by kernel_rfl
theorem sz7 : szOf Tryz.prog 7 = some 4 := by kernel_rfl
theorem by7 : byOf Tryz.prog 7 = some 24 := by kernel_rfl
theorem ze7 : zeOf Tryz.prog 7 = some (.agg #[.int .i64 0, .int .i64 0, .bool false, .int .u8 0]) := by kernel_rfl
theorem ag7 : aggOf Tryz.prog 7 = some true := by kernel_rfl
theorem con7 : Program.concrete Tryz.prog 7 = true := by kernel_rfl
theorem egt7 : Tryz.prog.eqGuardType Tryz.prog.depth 7 = false := by kernel_rfl
theorem sz8 : szOf Tryz.prog 8 = some 4 := by kernel_rfl
theorem by8 : byOf Tryz.prog 8 = some 24 := by kernel_rfl
theorem ze8 : zeOf Tryz.prog 8 = some (.agg #[.int .i64 0, .int .i64 0, .bool false, .int .u8 0]) := by kernel_rfl
theorem ag8 : aggOf Tryz.prog 8 = some true := by kernel_rfl
theorem con8 : Program.concrete Tryz.prog 8 = true := by kernel_rfl
theorem egt8 : Tryz.prog.eqGuardType Tryz.prog.depth 8 = false := by kernel_rfl
theorem sz9 : szOf Tryz.prog 9 = some 1 := by kernel_rfl
theorem by9 : byOf Tryz.prog 9 = some 16 := by kernel_rfl
theorem ze9 : zeOf Tryz.prog 9 = some (.string .empty) := by kernel_rfl
theorem ag9 : aggOf Tryz.prog 9 = some false := by kernel_rfl
theorem con9 : Program.concrete Tryz.prog 9 = true := by kernel_rfl
theorem sz10 : szOf Tryz.prog 10 = some 1 := by kernel_rfl
theorem by10 : byOf Tryz.prog 10 = some 16 := by kernel_rfl
theorem ze10 : zeOf Tryz.prog 10 = some (.string .empty) := by kernel_rfl
theorem ag10 : aggOf Tryz.prog 10 = some false := by kernel_rfl
theorem con10 : Program.concrete Tryz.prog 10 = true := by kernel_rfl
theorem sz11 : szOf Tryz.prog 11 = some 1 := by kernel_rfl
theorem by11 : byOf Tryz.prog 11 = some 16 := by kernel_rfl
theorem ze11 : zeOf Tryz.prog 11 = some (.string .empty) := by kernel_rfl
theorem ag11 : aggOf Tryz.prog 11 = some false := by kernel_rfl
theorem con11 : Program.concrete Tryz.prog 11 = true := by kernel_rfl
theorem sz12 : szOf Tryz.prog 12 = some 1 := by kernel_rfl
theorem by12 : byOf Tryz.prog 12 = some 8 := by kernel_rfl
theorem ze12 : zeOf Tryz.prog 12 = some (.int .u64 0) := by kernel_rfl
theorem ag12 : aggOf Tryz.prog 12 = some false := by kernel_rfl
theorem con12 : Program.concrete Tryz.prog 12 = true := by kernel_rfl
theorem sz13 : szOf Tryz.prog 13 = some 2 := by kernel_rfl
theorem by13 : byOf Tryz.prog 13 = some 24 := by kernel_rfl
theorem ze13 : zeOf Tryz.prog 13 = some (.agg #[.string .empty, .int .u64 0]) := by kernel_rfl
theorem ag13 : aggOf Tryz.prog 13 = some true := by kernel_rfl
theorem con13 : Program.concrete Tryz.prog 13 = true := by kernel_rfl
theorem egt13 : Tryz.prog.eqGuardType Tryz.prog.depth 13 = false := by kernel_rfl
theorem sz14 : szOf Tryz.prog 14 = some 2 := by kernel_rfl
theorem by14 : byOf Tryz.prog 14 = some 24 := by kernel_rfl
theorem ze14 : zeOf Tryz.prog 14 = some (.agg #[.string .empty, .int .u64 0]) := by kernel_rfl
theorem ag14 : aggOf Tryz.prog 14 = some true := by kernel_rfl
theorem con14 : Program.concrete Tryz.prog 14 = true := by kernel_rfl
theorem egt14 : Tryz.prog.eqGuardType Tryz.prog.depth 14 = false := by kernel_rfl
theorem sz15 : szOf Tryz.prog 15 = some 1 := by kernel_rfl
theorem by15 : byOf Tryz.prog 15 = some 8 := by kernel_rfl
theorem ze15 : zeOf Tryz.prog 15 = some (.pointer none) := by kernel_rfl
theorem ag15 : aggOf Tryz.prog 15 = some false := by kernel_rfl
theorem con15 : Program.concrete Tryz.prog 15 = true := by kernel_rfl
theorem sz16 : szOf Tryz.prog 16 = some 1 := by kernel_rfl
theorem by16 : byOf Tryz.prog 16 = some 8 := by kernel_rfl
theorem ze16 : zeOf Tryz.prog 16 = some (.pointer none) := by kernel_rfl
theorem ag16 : aggOf Tryz.prog 16 = some false := by kernel_rfl
theorem con16 : Program.concrete Tryz.prog 16 = true := by kernel_rfl
theorem sz17 : szOf Tryz.prog 17 = some 1 := by kernel_rfl
theorem by17 : byOf Tryz.prog 17 = some 8 := by kernel_rfl
theorem ze17 : zeOf Tryz.prog 17 = some (.pointer none) := by kernel_rfl
theorem ag17 : aggOf Tryz.prog 17 = some false := by kernel_rfl
theorem con17 : Program.concrete Tryz.prog 17 = true := by kernel_rfl
theorem sz18 : szOf Tryz.prog 18 = some 1 := by kernel_rfl
theorem by18 : byOf Tryz.prog 18 = some 8 := by kernel_rfl
theorem ze18 : zeOf Tryz.prog 18 = some (.agg #[.pointer none]) := by kernel_rfl
theorem ag18 : aggOf Tryz.prog 18 = some true := by kernel_rfl
theorem con18 : Program.concrete Tryz.prog 18 = true := by kernel_rfl
theorem egt18 : Tryz.prog.eqGuardType Tryz.prog.depth 18 = false := by kernel_rfl
theorem sz19 : szOf Tryz.prog 19 = some 1 := by kernel_rfl
theorem by19 : byOf Tryz.prog 19 = some 8 := by kernel_rfl
theorem ze19 : zeOf Tryz.prog 19 = some (.agg #[.pointer none]) := by kernel_rfl
theorem ag19 : aggOf Tryz.prog 19 = some true := by kernel_rfl
theorem con19 : Program.concrete Tryz.prog 19 = true := by kernel_rfl
theorem egt19 : Tryz.prog.eqGuardType Tryz.prog.depth 19 = false := by kernel_rfl
theorem sz20 : szOf Tryz.prog 20 = some 1 := by kernel_rfl
theorem by20 : byOf Tryz.prog 20 = some 16 := by kernel_rfl
theorem ze20 : zeOf Tryz.prog 20 = some (.nilIface) := by kernel_rfl
theorem ag20 : aggOf Tryz.prog 20 = some false := by kernel_rfl
theorem con20 : Program.concrete Tryz.prog 20 = false := by kernel_rfl
theorem sz21 : szOf Tryz.prog 21 = some 1 := by kernel_rfl
theorem by21 : byOf Tryz.prog 21 = some 4 := by kernel_rfl
theorem ze21 : zeOf Tryz.prog 21 = some (.int .i32 0) := by kernel_rfl
theorem ag21 : aggOf Tryz.prog 21 = some false := by kernel_rfl
theorem con21 : Program.concrete Tryz.prog 21 = true := by kernel_rfl
theorem sz22 : szOf Tryz.prog 22 = some 1 := by kernel_rfl
theorem by22 : byOf Tryz.prog 22 = some 24 := by kernel_rfl
theorem ze22 : zeOf Tryz.prog 22 = some (.slice none 0 0) := by kernel_rfl
theorem ag22 : aggOf Tryz.prog 22 = some false := by kernel_rfl
theorem con22 : Program.concrete Tryz.prog 22 = true := by kernel_rfl
theorem sz23 : szOf Tryz.prog 23 = some 3 := by kernel_rfl
theorem by23 : byOf Tryz.prog 23 = some 40 := by kernel_rfl
theorem ze23 : zeOf Tryz.prog 23 = some (.agg #[.bool false, .slice none 0 0, .int .u8 0]) := by kernel_rfl
theorem ag23 : aggOf Tryz.prog 23 = some true := by kernel_rfl
theorem con23 : Program.concrete Tryz.prog 23 = true := by kernel_rfl
theorem egt23 : Tryz.prog.eqGuardType Tryz.prog.depth 23 = false := by kernel_rfl
theorem sz24 : szOf Tryz.prog 24 = some 3 := by kernel_rfl
theorem by24 : byOf Tryz.prog 24 = some 40 := by kernel_rfl
theorem ze24 : zeOf Tryz.prog 24 = some (.agg #[.bool false, .slice none 0 0, .int .u8 0]) := by kernel_rfl
theorem ag24 : aggOf Tryz.prog 24 = some true := by kernel_rfl
theorem con24 : Program.concrete Tryz.prog 24 = true := by kernel_rfl
theorem nsi24 : Tryz.prog.stoodInHeld 24 = false := by kernel_rfl
theorem egt24 : Tryz.prog.eqGuardType Tryz.prog.depth 24 = false := by kernel_rfl
theorem sz25 : szOf Tryz.prog 25 = some 1 := by kernel_rfl
theorem by25 : byOf Tryz.prog 25 = some 8 := by kernel_rfl
theorem ze25 : zeOf Tryz.prog 25 = some (.nilFunc) := by kernel_rfl
theorem ag25 : aggOf Tryz.prog 25 = some false := by kernel_rfl
theorem con25 : Program.concrete Tryz.prog 25 = true := by kernel_rfl
theorem sz26 : szOf Tryz.prog 26 = some 3 := by kernel_rfl
theorem by26 : byOf Tryz.prog 26 = some 32 := by kernel_rfl
theorem ze26 : zeOf Tryz.prog 26 = some (.agg #[.bool false, .string .empty, .int .i64 0]) := by kernel_rfl
theorem ag26 : aggOf Tryz.prog 26 = some true := by kernel_rfl
theorem con26 : Program.concrete Tryz.prog 26 = true := by kernel_rfl
theorem egt26 : Tryz.prog.eqGuardType Tryz.prog.depth 26 = false := by kernel_rfl
theorem sz27 : szOf Tryz.prog 27 = some 3 := by kernel_rfl
theorem by27 : byOf Tryz.prog 27 = some 32 := by kernel_rfl
theorem ze27 : zeOf Tryz.prog 27 = some (.agg #[.bool false, .string .empty, .int .i64 0]) := by kernel_rfl
theorem ag27 : aggOf Tryz.prog 27 = some true := by kernel_rfl
theorem con27 : Program.concrete Tryz.prog 27 = true := by kernel_rfl
theorem nsi27 : Tryz.prog.stoodInHeld 27 = false := by kernel_rfl
theorem egt27 : Tryz.prog.eqGuardType Tryz.prog.depth 27 = false := by kernel_rfl
theorem sz28 : szOf Tryz.prog 28 = some 1 := by kernel_rfl
theorem by28 : byOf Tryz.prog 28 = some 8 := by kernel_rfl
theorem ze28 : zeOf Tryz.prog 28 = some (.nilFunc) := by kernel_rfl
theorem ag28 : aggOf Tryz.prog 28 = some false := by kernel_rfl
theorem con28 : Program.concrete Tryz.prog 28 = true := by kernel_rfl
theorem sz29 : szOf Tryz.prog 29 = some 1 := by kernel_rfl
theorem by29 : byOf Tryz.prog 29 = some 8 := by kernel_rfl
theorem ze29 : zeOf Tryz.prog 29 = some (.int .i64 0) := by kernel_rfl
theorem ag29 : aggOf Tryz.prog 29 = some false := by kernel_rfl
theorem con29 : Program.concrete Tryz.prog 29 = true := by kernel_rfl
theorem sz31 : szOf Tryz.prog 31 = some 1 := by kernel_rfl
theorem by31 : byOf Tryz.prog 31 = some 8 := by kernel_rfl
theorem ze31 : zeOf Tryz.prog 31 = some (.nilFunc) := by kernel_rfl
theorem ag31 : aggOf Tryz.prog 31 = some false := by kernel_rfl
theorem con31 : Program.concrete Tryz.prog 31 = true := by kernel_rfl
theorem sz32 : szOf Tryz.prog 32 = some 1 := by kernel_rfl
theorem by32 : byOf Tryz.prog 32 = some 8 := by kernel_rfl
theorem ze32 : zeOf Tryz.prog 32 = some (.nilFunc) := by kernel_rfl
theorem ag32 : aggOf Tryz.prog 32 = some false := by kernel_rfl
theorem con32 : Program.concrete Tryz.prog 32 = true := by kernel_rfl
theorem sz33 : szOf Tryz.prog 33 = some 1 := by kernel_rfl
theorem by33 : byOf Tryz.prog 33 = some 8 := by kernel_rfl
theorem ze33 : zeOf Tryz.prog 33 = some (.nilFunc) := by kernel_rfl
theorem ag33 : aggOf Tryz.prog 33 = some false := by kernel_rfl
theorem con33 : Program.concrete Tryz.prog 33 = true := by kernel_rfl
theorem sz34 : szOf Tryz.prog 34 = some 1 := by kernel_rfl
theorem by34 : byOf Tryz.prog 34 = some 8 := by kernel_rfl
theorem ze34 : zeOf Tryz.prog 34 = some (.nilFunc) := by kernel_rfl
theorem ag34 : aggOf Tryz.prog 34 = some false := by kernel_rfl
theorem con34 : Program.concrete Tryz.prog 34 = true := by kernel_rfl
theorem sz35 : szOf Tryz.prog 35 = some 1 := by kernel_rfl
theorem by35 : byOf Tryz.prog 35 = some 8 := by kernel_rfl
theorem ze35 : zeOf Tryz.prog 35 = some (.nilFunc) := by kernel_rfl
theorem ag35 : aggOf Tryz.prog 35 = some false := by kernel_rfl
theorem con35 : Program.concrete Tryz.prog 35 = true := by kernel_rfl
theorem sz36 : szOf Tryz.prog 36 = some 1 := by kernel_rfl
theorem by36 : byOf Tryz.prog 36 = some 8 := by kernel_rfl
theorem ze36 : zeOf Tryz.prog 36 = some (.nilFunc) := by kernel_rfl
theorem ag36 : aggOf Tryz.prog 36 = some false := by kernel_rfl
theorem con36 : Program.concrete Tryz.prog 36 = true := by kernel_rfl
theorem sz37 : szOf Tryz.prog 37 = some 1 := by kernel_rfl
theorem by37 : byOf Tryz.prog 37 = some 8 := by kernel_rfl
theorem ze37 : zeOf Tryz.prog 37 = some (.nilFunc) := by kernel_rfl
theorem ag37 : aggOf Tryz.prog 37 = some false := by kernel_rfl
theorem con37 : Program.concrete Tryz.prog 37 = true := by kernel_rfl
theorem sz38 : szOf Tryz.prog 38 = some 1 := by kernel_rfl
theorem by38 : byOf Tryz.prog 38 = some 24 := by kernel_rfl
theorem ze38 : zeOf Tryz.prog 38 = some (.slice none 0 0) := by kernel_rfl
theorem ag38 : aggOf Tryz.prog 38 = some false := by kernel_rfl
theorem con38 : Program.concrete Tryz.prog 38 = true := by kernel_rfl
theorem sz39 : szOf Tryz.prog 39 = some 2 := by kernel_rfl
theorem by39 : byOf Tryz.prog 39 = some 32 := by kernel_rfl
theorem ze39 : zeOf Tryz.prog 39 = some (.agg #[.bool false, .slice none 0 0]) := by kernel_rfl
theorem ag39 : aggOf Tryz.prog 39 = some true := by kernel_rfl
theorem con39 : Program.concrete Tryz.prog 39 = true := by kernel_rfl
theorem egt39 : Tryz.prog.eqGuardType Tryz.prog.depth 39 = false := by kernel_rfl
theorem sz40 : szOf Tryz.prog 40 = some 2 := by kernel_rfl
theorem by40 : byOf Tryz.prog 40 = some 32 := by kernel_rfl
theorem ze40 : zeOf Tryz.prog 40 = some (.agg #[.bool false, .slice none 0 0]) := by kernel_rfl
theorem ag40 : aggOf Tryz.prog 40 = some true := by kernel_rfl
theorem con40 : Program.concrete Tryz.prog 40 = true := by kernel_rfl
theorem nsi40 : Tryz.prog.stoodInHeld 40 = false := by kernel_rfl
theorem egt40 : Tryz.prog.eqGuardType Tryz.prog.depth 40 = false := by kernel_rfl
theorem sz41 : szOf Tryz.prog 41 = some 1 := by kernel_rfl
theorem by41 : byOf Tryz.prog 41 = some 8 := by kernel_rfl
theorem ze41 : zeOf Tryz.prog 41 = some (.nilFunc) := by kernel_rfl
theorem ag41 : aggOf Tryz.prog 41 = some false := by kernel_rfl
theorem con41 : Program.concrete Tryz.prog 41 = true := by kernel_rfl
theorem sz42 : szOf Tryz.prog 42 = some 1 := by kernel_rfl
theorem by42 : byOf Tryz.prog 42 = some 8 := by kernel_rfl
theorem ze42 : zeOf Tryz.prog 42 = some (.nilFunc) := by kernel_rfl
theorem ag42 : aggOf Tryz.prog 42 = some false := by kernel_rfl
theorem con42 : Program.concrete Tryz.prog 42 = true := by kernel_rfl
theorem sz43 : szOf Tryz.prog 43 = some 1 := by kernel_rfl
theorem by43 : byOf Tryz.prog 43 = some 8 := by kernel_rfl
theorem ze43 : zeOf Tryz.prog 43 = some (.nilFunc) := by kernel_rfl
theorem ag43 : aggOf Tryz.prog 43 = some false := by kernel_rfl
theorem con43 : Program.concrete Tryz.prog 43 = true := by kernel_rfl
theorem sz44 : szOf Tryz.prog 44 = some 1 := by kernel_rfl
theorem by44 : byOf Tryz.prog 44 = some 8 := by kernel_rfl
theorem ze44 : zeOf Tryz.prog 44 = some (.nilFunc) := by kernel_rfl
theorem ag44 : aggOf Tryz.prog 44 = some false := by kernel_rfl
theorem con44 : Program.concrete Tryz.prog 44 = true := by kernel_rfl
theorem sz45 : szOf Tryz.prog 45 = some 1 := by kernel_rfl
theorem by45 : byOf Tryz.prog 45 = some 8 := by kernel_rfl
theorem ze45 : zeOf Tryz.prog 45 = some (.nilFunc) := by kernel_rfl
theorem ag45 : aggOf Tryz.prog 45 = some false := by kernel_rfl
theorem con45 : Program.concrete Tryz.prog 45 = true := by kernel_rfl
theorem sz46 : szOf Tryz.prog 46 = some 1 := by kernel_rfl
theorem by46 : byOf Tryz.prog 46 = some 8 := by kernel_rfl
theorem ze46 : zeOf Tryz.prog 46 = some (.nilFunc) := by kernel_rfl
theorem ag46 : aggOf Tryz.prog 46 = some false := by kernel_rfl
theorem con46 : Program.concrete Tryz.prog 46 = true := by kernel_rfl
theorem sz47 : szOf Tryz.prog 47 = some 1 := by kernel_rfl
theorem by47 : byOf Tryz.prog 47 = some 8 := by kernel_rfl
theorem ze47 : zeOf Tryz.prog 47 = some (.nilFunc) := by kernel_rfl
theorem ag47 : aggOf Tryz.prog 47 = some false := by kernel_rfl
theorem con47 : Program.concrete Tryz.prog 47 = true := by kernel_rfl
theorem sz48 : szOf Tryz.prog 48 = some 1 := by kernel_rfl
theorem by48 : byOf Tryz.prog 48 = some 2 := by kernel_rfl
theorem ze48 : zeOf Tryz.prog 48 = some (.int .i16 0) := by kernel_rfl
theorem ag48 : aggOf Tryz.prog 48 = some false := by kernel_rfl
theorem con48 : Program.concrete Tryz.prog 48 = true := by kernel_rfl
theorem sz49 : szOf Tryz.prog 49 = some 1 := by kernel_rfl
theorem by49 : byOf Tryz.prog 49 = some 8 := by kernel_rfl
theorem ze49 : zeOf Tryz.prog 49 = some (.nilFunc) := by kernel_rfl
theorem ag49 : aggOf Tryz.prog 49 = some false := by kernel_rfl
theorem con49 : Program.concrete Tryz.prog 49 = true := by kernel_rfl
theorem sz50 : szOf Tryz.prog 50 = some 1 := by kernel_rfl
theorem by50 : byOf Tryz.prog 50 = some 8 := by kernel_rfl
theorem ze50 : zeOf Tryz.prog 50 = some (.nilFunc) := by kernel_rfl
theorem ag50 : aggOf Tryz.prog 50 = some false := by kernel_rfl
theorem con50 : Program.concrete Tryz.prog 50 = true := by kernel_rfl
theorem sz52 : szOf Tryz.prog 52 = some 1 := by kernel_rfl
theorem by52 : byOf Tryz.prog 52 = some 8 := by kernel_rfl
theorem ze52 : zeOf Tryz.prog 52 = some (.nilFunc) := by kernel_rfl
theorem ag52 : aggOf Tryz.prog 52 = some false := by kernel_rfl
theorem con52 : Program.concrete Tryz.prog 52 = true := by kernel_rfl
theorem sz53 : szOf Tryz.prog 53 = some 1 := by kernel_rfl
theorem by53 : byOf Tryz.prog 53 = some 8 := by kernel_rfl
theorem ze53 : zeOf Tryz.prog 53 = some (.nilFunc) := by kernel_rfl
theorem ag53 : aggOf Tryz.prog 53 = some false := by kernel_rfl
theorem con53 : Program.concrete Tryz.prog 53 = true := by kernel_rfl
theorem sz54 : szOf Tryz.prog 54 = some 1 := by kernel_rfl
theorem by54 : byOf Tryz.prog 54 = some 8 := by kernel_rfl
theorem ze54 : zeOf Tryz.prog 54 = some (.nilFunc) := by kernel_rfl
theorem ag54 : aggOf Tryz.prog 54 = some false := by kernel_rfl
theorem con54 : Program.concrete Tryz.prog 54 = true := by kernel_rfl
theorem sz55 : szOf Tryz.prog 55 = some 1 := by kernel_rfl
theorem by55 : byOf Tryz.prog 55 = some 8 := by kernel_rfl
theorem ze55 : zeOf Tryz.prog 55 = some (.nilFunc) := by kernel_rfl
theorem ag55 : aggOf Tryz.prog 55 = some false := by kernel_rfl
theorem con55 : Program.concrete Tryz.prog 55 = true := by kernel_rfl
theorem sz56 : szOf Tryz.prog 56 = some 1 := by kernel_rfl
theorem by56 : byOf Tryz.prog 56 = some 8 := by kernel_rfl
theorem ze56 : zeOf Tryz.prog 56 = some (.nilFunc) := by kernel_rfl
theorem ag56 : aggOf Tryz.prog 56 = some false := by kernel_rfl
theorem con56 : Program.concrete Tryz.prog 56 = true := by kernel_rfl
theorem sz57 : szOf Tryz.prog 57 = some 1 := by kernel_rfl
theorem by57 : byOf Tryz.prog 57 = some 8 := by kernel_rfl
theorem ze57 : zeOf Tryz.prog 57 = some (.nilFunc) := by kernel_rfl
theorem ag57 : aggOf Tryz.prog 57 = some false := by kernel_rfl
theorem con57 : Program.concrete Tryz.prog 57 = true := by kernel_rfl
theorem sz59 : szOf Tryz.prog 59 = some 1 := by kernel_rfl
theorem by59 : byOf Tryz.prog 59 = some 8 := by kernel_rfl
theorem ze59 : zeOf Tryz.prog 59 = some (.nilFunc) := by kernel_rfl
theorem ag59 : aggOf Tryz.prog 59 = some false := by kernel_rfl
theorem con59 : Program.concrete Tryz.prog 59 = true := by kernel_rfl
theorem sz60 : szOf Tryz.prog 60 = some 1 := by kernel_rfl
theorem by60 : byOf Tryz.prog 60 = some 8 := by kernel_rfl
theorem ze60 : zeOf Tryz.prog 60 = some (.nilFunc) := by kernel_rfl
theorem ag60 : aggOf Tryz.prog 60 = some false := by kernel_rfl
theorem con60 : Program.concrete Tryz.prog 60 = true := by kernel_rfl
theorem sz61 : szOf Tryz.prog 61 = some 1 := by kernel_rfl
theorem by61 : byOf Tryz.prog 61 = some 8 := by kernel_rfl
theorem ze61 : zeOf Tryz.prog 61 = some (.nilFunc) := by kernel_rfl
theorem ag61 : aggOf Tryz.prog 61 = some false := by kernel_rfl
theorem con61 : Program.concrete Tryz.prog 61 = true := by kernel_rfl
theorem sz63 : szOf Tryz.prog 63 = some 1 := by kernel_rfl
theorem by63 : byOf Tryz.prog 63 = some 8 := by kernel_rfl
theorem ze63 : zeOf Tryz.prog 63 = some (.nilFunc) := by kernel_rfl
theorem ag63 : aggOf Tryz.prog 63 = some false := by kernel_rfl
theorem con63 : Program.concrete Tryz.prog 63 = true := by kernel_rfl
theorem sz64 : szOf Tryz.prog 64 = some 1 := by kernel_rfl
theorem by64 : byOf Tryz.prog 64 = some 8 := by kernel_rfl
theorem ze64 : zeOf Tryz.prog 64 = some (.nilFunc) := by kernel_rfl
theorem ag64 : aggOf Tryz.prog 64 = some false := by kernel_rfl
theorem con64 : Program.concrete Tryz.prog 64 = true := by kernel_rfl
theorem sz65 : szOf Tryz.prog 65 = some 1 := by kernel_rfl
theorem by65 : byOf Tryz.prog 65 = some 24 := by kernel_rfl
theorem ze65 : zeOf Tryz.prog 65 = some (.slice none 0 0) := by kernel_rfl
theorem ag65 : aggOf Tryz.prog 65 = some false := by kernel_rfl
theorem con65 : Program.concrete Tryz.prog 65 = true := by kernel_rfl
theorem sz66 : szOf Tryz.prog 66 = some 1 := by kernel_rfl
theorem by66 : byOf Tryz.prog 66 = some 24 := by kernel_rfl
theorem ze66 : zeOf Tryz.prog 66 = some (.slice none 0 0) := by kernel_rfl
theorem ag66 : aggOf Tryz.prog 66 = some false := by kernel_rfl
theorem con66 : Program.concrete Tryz.prog 66 = true := by kernel_rfl
theorem sz67 : szOf Tryz.prog 67 = some 1 := by kernel_rfl
theorem by67 : byOf Tryz.prog 67 = some 8 := by kernel_rfl
theorem ze67 : zeOf Tryz.prog 67 = some (.nilFunc) := by kernel_rfl
theorem ag67 : aggOf Tryz.prog 67 = some false := by kernel_rfl
theorem con67 : Program.concrete Tryz.prog 67 = true := by kernel_rfl
theorem sz69 : szOf Tryz.prog 69 = some 1 := by kernel_rfl
theorem by69 : byOf Tryz.prog 69 = some 8 := by kernel_rfl
theorem ze69 : zeOf Tryz.prog 69 = some (.nilFunc) := by kernel_rfl
theorem ag69 : aggOf Tryz.prog 69 = some false := by kernel_rfl
theorem con69 : Program.concrete Tryz.prog 69 = true := by kernel_rfl
theorem sz70 : szOf Tryz.prog 70 = some 1 := by kernel_rfl
theorem by70 : byOf Tryz.prog 70 = some 8 := by kernel_rfl
theorem ze70 : zeOf Tryz.prog 70 = some (.nilFunc) := by kernel_rfl
theorem ag70 : aggOf Tryz.prog 70 = some false := by kernel_rfl
theorem con70 : Program.concrete Tryz.prog 70 = true := by kernel_rfl
theorem sz72 : szOf Tryz.prog 72 = some 1 := by kernel_rfl
theorem by72 : byOf Tryz.prog 72 = some 8 := by kernel_rfl
theorem ze72 : zeOf Tryz.prog 72 = some (.nilFunc) := by kernel_rfl
theorem ag72 : aggOf Tryz.prog 72 = some false := by kernel_rfl
theorem con72 : Program.concrete Tryz.prog 72 = true := by kernel_rfl
theorem sz73 : szOf Tryz.prog 73 = some 1 := by kernel_rfl
theorem by73 : byOf Tryz.prog 73 = some 8 := by kernel_rfl
theorem ze73 : zeOf Tryz.prog 73 = some (.nilFunc) := by kernel_rfl
theorem ag73 : aggOf Tryz.prog 73 = some false := by kernel_rfl
theorem con73 : Program.concrete Tryz.prog 73 = true := by kernel_rfl
theorem sz74 : szOf Tryz.prog 74 = some 1 := by kernel_rfl
theorem by74 : byOf Tryz.prog 74 = some 8 := by kernel_rfl
theorem ze74 : zeOf Tryz.prog 74 = some (.nilFunc) := by kernel_rfl
theorem ag74 : aggOf Tryz.prog 74 = some false := by kernel_rfl
theorem con74 : Program.concrete Tryz.prog 74 = true := by kernel_rfl
theorem sz75 : szOf Tryz.prog 75 = some 1 := by kernel_rfl
theorem by75 : byOf Tryz.prog 75 = some 8 := by kernel_rfl
theorem ze75 : zeOf Tryz.prog 75 = some (.nilFunc) := by kernel_rfl
theorem ag75 : aggOf Tryz.prog 75 = some false := by kernel_rfl
theorem con75 : Program.concrete Tryz.prog 75 = true := by kernel_rfl
theorem sz76 : szOf Tryz.prog 76 = some 1 := by kernel_rfl
theorem by76 : byOf Tryz.prog 76 = some 8 := by kernel_rfl
theorem ze76 : zeOf Tryz.prog 76 = some (.nilFunc) := by kernel_rfl
theorem ag76 : aggOf Tryz.prog 76 = some false := by kernel_rfl
theorem con76 : Program.concrete Tryz.prog 76 = true := by kernel_rfl
theorem sz78 : szOf Tryz.prog 78 = some 1 := by kernel_rfl
theorem by78 : byOf Tryz.prog 78 = some 8 := by kernel_rfl
theorem ze78 : zeOf Tryz.prog 78 = some (.nilFunc) := by kernel_rfl
theorem ag78 : aggOf Tryz.prog 78 = some false := by kernel_rfl
theorem con78 : Program.concrete Tryz.prog 78 = true := by kernel_rfl
theorem sz79 : szOf Tryz.prog 79 = some 1 := by kernel_rfl
theorem by79 : byOf Tryz.prog 79 = some 8 := by kernel_rfl
theorem ze79 : zeOf Tryz.prog 79 = some (.nilFunc) := by kernel_rfl
theorem ag79 : aggOf Tryz.prog 79 = some false := by kernel_rfl
theorem con79 : Program.concrete Tryz.prog 79 = true := by kernel_rfl
theorem sz80 : szOf Tryz.prog 80 = some 1 := by kernel_rfl
theorem by80 : byOf Tryz.prog 80 = some 8 := by kernel_rfl
theorem ze80 : zeOf Tryz.prog 80 = some (.nilFunc) := by kernel_rfl
theorem ag80 : aggOf Tryz.prog 80 = some false := by kernel_rfl
theorem con80 : Program.concrete Tryz.prog 80 = true := by kernel_rfl
theorem sz81 : szOf Tryz.prog 81 = some 1 := by kernel_rfl
theorem by81 : byOf Tryz.prog 81 = some 16 := by kernel_rfl
theorem ze81 : zeOf Tryz.prog 81 = some (.nilIface) := by kernel_rfl
theorem ag81 : aggOf Tryz.prog 81 = some false := by kernel_rfl
theorem con81 : Program.concrete Tryz.prog 81 = false := by kernel_rfl
theorem sz82 : szOf Tryz.prog 82 = some 1 := by kernel_rfl
theorem by82 : byOf Tryz.prog 82 = some 16 := by kernel_rfl
theorem ze82 : zeOf Tryz.prog 82 = some (.nilIface) := by kernel_rfl
theorem ag82 : aggOf Tryz.prog 82 = some false := by kernel_rfl
theorem con82 : Program.concrete Tryz.prog 82 = false := by kernel_rfl
theorem sz84 : szOf Tryz.prog 84 = some 1 := by kernel_rfl
theorem by84 : byOf Tryz.prog 84 = some 8 := by kernel_rfl
theorem ze84 : zeOf Tryz.prog 84 = some (.nilFunc) := by kernel_rfl
theorem ag84 : aggOf Tryz.prog 84 = some false := by kernel_rfl
theorem con84 : Program.concrete Tryz.prog 84 = true := by kernel_rfl
theorem sz85 : szOf Tryz.prog 85 = some 1 := by kernel_rfl
theorem by85 : byOf Tryz.prog 85 = some 8 := by kernel_rfl
theorem ze85 : zeOf Tryz.prog 85 = some (.nilFunc) := by kernel_rfl
theorem ag85 : aggOf Tryz.prog 85 = some false := by kernel_rfl
theorem con85 : Program.concrete Tryz.prog 85 = true := by kernel_rfl
theorem sz86 : szOf Tryz.prog 86 = some 1 := by kernel_rfl
theorem by86 : byOf Tryz.prog 86 = some 8 := by kernel_rfl
theorem ze86 : zeOf Tryz.prog 86 = some (.nilFunc) := by kernel_rfl
theorem ag86 : aggOf Tryz.prog 86 = some false := by kernel_rfl
theorem con86 : Program.concrete Tryz.prog 86 = true := by kernel_rfl
theorem sz88 : szOf Tryz.prog 88 = some 1 := by kernel_rfl
theorem by88 : byOf Tryz.prog 88 = some 8 := by kernel_rfl
theorem ze88 : zeOf Tryz.prog 88 = some (.nilFunc) := by kernel_rfl
theorem ag88 : aggOf Tryz.prog 88 = some false := by kernel_rfl
theorem con88 : Program.concrete Tryz.prog 88 = true := by kernel_rfl
theorem sz89 : szOf Tryz.prog 89 = some 1 := by kernel_rfl
theorem by89 : byOf Tryz.prog 89 = some 8 := by kernel_rfl
theorem ze89 : zeOf Tryz.prog 89 = some (.nilFunc) := by kernel_rfl
theorem ag89 : aggOf Tryz.prog 89 = some false := by kernel_rfl
theorem con89 : Program.concrete Tryz.prog 89 = true := by kernel_rfl
theorem sz90 : szOf Tryz.prog 90 = some 1 := by kernel_rfl
theorem by90 : byOf Tryz.prog 90 = some 8 := by kernel_rfl
theorem ze90 : zeOf Tryz.prog 90 = some (.int .u64 0) := by kernel_rfl
theorem ag90 : aggOf Tryz.prog 90 = some false := by kernel_rfl
theorem con90 : Program.concrete Tryz.prog 90 = true := by kernel_rfl
theorem sz92 : szOf Tryz.prog 92 = some 1 := by kernel_rfl
theorem by92 : byOf Tryz.prog 92 = some 8 := by kernel_rfl
theorem ze92 : zeOf Tryz.prog 92 = some (.nilFunc) := by kernel_rfl
theorem ag92 : aggOf Tryz.prog 92 = some false := by kernel_rfl
theorem con92 : Program.concrete Tryz.prog 92 = true := by kernel_rfl
theorem sz93 : szOf Tryz.prog 93 = some 1 := by kernel_rfl
theorem by93 : byOf Tryz.prog 93 = some 8 := by kernel_rfl
theorem ze93 : zeOf Tryz.prog 93 = some (.pointer none) := by kernel_rfl
theorem ag93 : aggOf Tryz.prog 93 = some false := by kernel_rfl
theorem con93 : Program.concrete Tryz.prog 93 = true := by kernel_rfl
theorem sz94 : szOf Tryz.prog 94 = some 2 := by kernel_rfl
theorem by94 : byOf Tryz.prog 94 = some 32 := by kernel_rfl
theorem ze94 : zeOf Tryz.prog 94 = some (.agg #[.pointer none, .slice none 0 0]) := by kernel_rfl
theorem ag94 : aggOf Tryz.prog 94 = some true := by kernel_rfl
theorem con94 : Program.concrete Tryz.prog 94 = true := by kernel_rfl
theorem egt94 : Tryz.prog.eqGuardType Tryz.prog.depth 94 = false := by kernel_rfl
theorem sz95 : szOf Tryz.prog 95 = some 2 := by kernel_rfl
theorem by95 : byOf Tryz.prog 95 = some 32 := by kernel_rfl
theorem ze95 : zeOf Tryz.prog 95 = some (.agg #[.pointer none, .slice none 0 0]) := by kernel_rfl
theorem ag95 : aggOf Tryz.prog 95 = some true := by kernel_rfl
theorem con95 : Program.concrete Tryz.prog 95 = true := by kernel_rfl
theorem egt95 : Tryz.prog.eqGuardType Tryz.prog.depth 95 = false := by kernel_rfl
theorem sz96 : szOf Tryz.prog 96 = some 1 := by kernel_rfl
theorem by96 : byOf Tryz.prog 96 = some 8 := by kernel_rfl
theorem ze96 : zeOf Tryz.prog 96 = some (.nilFunc) := by kernel_rfl
theorem ag96 : aggOf Tryz.prog 96 = some false := by kernel_rfl
theorem con96 : Program.concrete Tryz.prog 96 = true := by kernel_rfl
theorem sz98 : szOf Tryz.prog 98 = some 1 := by kernel_rfl
theorem by98 : byOf Tryz.prog 98 = some 8 := by kernel_rfl
theorem ze98 : zeOf Tryz.prog 98 = some (.nilFunc) := by kernel_rfl
theorem ag98 : aggOf Tryz.prog 98 = some false := by kernel_rfl
theorem con98 : Program.concrete Tryz.prog 98 = true := by kernel_rfl
theorem sz99 : szOf Tryz.prog 99 = some 1 := by kernel_rfl
theorem by99 : byOf Tryz.prog 99 = some 8 := by kernel_rfl
theorem ze99 : zeOf Tryz.prog 99 = some (.nilFunc) := by kernel_rfl
theorem ag99 : aggOf Tryz.prog 99 = some false := by kernel_rfl
theorem con99 : Program.concrete Tryz.prog 99 = true := by kernel_rfl
theorem sz100 : szOf Tryz.prog 100 = some 1 := by kernel_rfl
theorem by100 : byOf Tryz.prog 100 = some 8 := by kernel_rfl
theorem ze100 : zeOf Tryz.prog 100 = some (.nilFunc) := by kernel_rfl
theorem ag100 : aggOf Tryz.prog 100 = some false := by kernel_rfl
theorem con100 : Program.concrete Tryz.prog 100 = true := by kernel_rfl
theorem sz101 : szOf Tryz.prog 101 = some 1 := by kernel_rfl
theorem by101 : byOf Tryz.prog 101 = some 8 := by kernel_rfl
theorem ze101 : zeOf Tryz.prog 101 = some (.nilFunc) := by kernel_rfl
theorem ag101 : aggOf Tryz.prog 101 = some false := by kernel_rfl
theorem con101 : Program.concrete Tryz.prog 101 = true := by kernel_rfl
theorem sz102 : szOf Tryz.prog 102 = some 1 := by kernel_rfl
theorem by102 : byOf Tryz.prog 102 = some 8 := by kernel_rfl
theorem ze102 : zeOf Tryz.prog 102 = some (.nilFunc) := by kernel_rfl
theorem ag102 : aggOf Tryz.prog 102 = some false := by kernel_rfl
theorem con102 : Program.concrete Tryz.prog 102 = true := by kernel_rfl
theorem sz103 : szOf Tryz.prog 103 = some 256 := by kernel_rfl
theorem by103 : byOf Tryz.prog 103 = some 256 := by kernel_rfl
theorem ag103 : aggOf Tryz.prog 103 = some true := by kernel_rfl
theorem con103 : Program.concrete Tryz.prog 103 = true := by kernel_rfl
theorem egt103 : Tryz.prog.eqGuardType Tryz.prog.depth 103 = false := by kernel_rfl
theorem sz104 : szOf Tryz.prog 104 = some 256 := by kernel_rfl
theorem by104 : byOf Tryz.prog 104 = some 256 := by kernel_rfl
theorem ag104 : aggOf Tryz.prog 104 = some true := by kernel_rfl
theorem con104 : Program.concrete Tryz.prog 104 = true := by kernel_rfl
theorem egt104 : Tryz.prog.eqGuardType Tryz.prog.depth 104 = false := by kernel_rfl
theorem sz106 : szOf Tryz.prog 106 = some 1 := by kernel_rfl
theorem by106 : byOf Tryz.prog 106 = some 8 := by kernel_rfl
theorem ze106 : zeOf Tryz.prog 106 = some (.nilFunc) := by kernel_rfl
theorem ag106 : aggOf Tryz.prog 106 = some false := by kernel_rfl
theorem con106 : Program.concrete Tryz.prog 106 = true := by kernel_rfl
theorem sz107 : szOf Tryz.prog 107 = some 1 := by kernel_rfl
theorem by107 : byOf Tryz.prog 107 = some 8 := by kernel_rfl
theorem ze107 : zeOf Tryz.prog 107 = some (.nilFunc) := by kernel_rfl
theorem ag107 : aggOf Tryz.prog 107 = some false := by kernel_rfl
theorem con107 : Program.concrete Tryz.prog 107 = true := by kernel_rfl
theorem sz108 : szOf Tryz.prog 108 = some 1 := by kernel_rfl
theorem by108 : byOf Tryz.prog 108 = some 8 := by kernel_rfl
theorem ze108 : zeOf Tryz.prog 108 = some (.pointer none) := by kernel_rfl
theorem ag108 : aggOf Tryz.prog 108 = some false := by kernel_rfl
theorem con108 : Program.concrete Tryz.prog 108 = true := by kernel_rfl
theorem sz109 : szOf Tryz.prog 109 = some 1 := by kernel_rfl
theorem by109 : byOf Tryz.prog 109 = some 8 := by kernel_rfl
theorem ze109 : zeOf Tryz.prog 109 = some (.nilFunc) := by kernel_rfl
theorem ag109 : aggOf Tryz.prog 109 = some false := by kernel_rfl
theorem con109 : Program.concrete Tryz.prog 109 = true := by kernel_rfl
theorem sz110 : szOf Tryz.prog 110 = some 24 := by kernel_rfl
theorem by110 : byOf Tryz.prog 110 = some 24 := by kernel_rfl
theorem ze110 : zeOf Tryz.prog 110 = some (.agg #[.int .u8 0, .int .u8 0, .int .u8 0, .int .u8 0, .int .u8 0, .int .u8 0, .int .u8 0, .int .u8 0, .int .u8 0, .int .u8 0, .int .u8 0, .int .u8 0, .int .u8 0, .int .u8 0, .int .u8 0, .int .u8 0, .int .u8 0, .int .u8 0, .int .u8 0, .int .u8 0, .int .u8 0, .int .u8 0, .int .u8 0, .int .u8 0]) := by kernel_rfl
theorem ag110 : aggOf Tryz.prog 110 = some true := by kernel_rfl
theorem con110 : Program.concrete Tryz.prog 110 = true := by kernel_rfl
theorem egt110 : Tryz.prog.eqGuardType Tryz.prog.depth 110 = false := by kernel_rfl
theorem sz111 : szOf Tryz.prog 111 = some 1 := by kernel_rfl
theorem by111 : byOf Tryz.prog 111 = some 8 := by kernel_rfl
theorem ze111 : zeOf Tryz.prog 111 = some (.int .u64 0) := by kernel_rfl
theorem ag111 : aggOf Tryz.prog 111 = some false := by kernel_rfl
theorem con111 : Program.concrete Tryz.prog 111 = true := by kernel_rfl
theorem sz112 : szOf Tryz.prog 112 = some 1 := by kernel_rfl
theorem by112 : byOf Tryz.prog 112 = some 8 := by kernel_rfl
theorem ze112 : zeOf Tryz.prog 112 = some (.nilFunc) := by kernel_rfl
theorem ag112 : aggOf Tryz.prog 112 = some false := by kernel_rfl
theorem con112 : Program.concrete Tryz.prog 112 = true := by kernel_rfl
theorem sz113 : szOf Tryz.prog 113 = some 1 := by kernel_rfl
theorem by113 : byOf Tryz.prog 113 = some 8 := by kernel_rfl
theorem ze113 : zeOf Tryz.prog 113 = some (.nilFunc) := by kernel_rfl
theorem ag113 : aggOf Tryz.prog 113 = some false := by kernel_rfl
theorem con113 : Program.concrete Tryz.prog 113 = true := by kernel_rfl
theorem sz115 : szOf Tryz.prog 115 = some 1 := by kernel_rfl
theorem by115 : byOf Tryz.prog 115 = some 8 := by kernel_rfl
theorem ze115 : zeOf Tryz.prog 115 = some (.nilFunc) := by kernel_rfl
theorem ag115 : aggOf Tryz.prog 115 = some false := by kernel_rfl
theorem con115 : Program.concrete Tryz.prog 115 = true := by kernel_rfl
theorem sz117 : szOf Tryz.prog 117 = some 1 := by kernel_rfl
theorem by117 : byOf Tryz.prog 117 = some 4 := by kernel_rfl
theorem ze117 : zeOf Tryz.prog 117 = some (.int .u32 0) := by kernel_rfl
theorem ag117 : aggOf Tryz.prog 117 = some false := by kernel_rfl
theorem con117 : Program.concrete Tryz.prog 117 = true := by kernel_rfl
theorem sz119 : szOf Tryz.prog 119 = some 1 := by kernel_rfl
theorem by119 : byOf Tryz.prog 119 = some 8 := by kernel_rfl
theorem ze119 : zeOf Tryz.prog 119 = some (.nilFunc) := by kernel_rfl
theorem ag119 : aggOf Tryz.prog 119 = some false := by kernel_rfl
theorem con119 : Program.concrete Tryz.prog 119 = true := by kernel_rfl
theorem sz121 : szOf Tryz.prog 121 = some 1 := by kernel_rfl
theorem by121 : byOf Tryz.prog 121 = some 8 := by kernel_rfl
theorem ze121 : zeOf Tryz.prog 121 = some (.nilFunc) := by kernel_rfl
theorem ag121 : aggOf Tryz.prog 121 = some false := by kernel_rfl
theorem con121 : Program.concrete Tryz.prog 121 = true := by kernel_rfl
theorem sz122 : szOf Tryz.prog 122 = some 1 := by kernel_rfl
theorem by122 : byOf Tryz.prog 122 = some 8 := by kernel_rfl
theorem ze122 : zeOf Tryz.prog 122 = some (.pointer none) := by kernel_rfl
theorem ag122 : aggOf Tryz.prog 122 = some false := by kernel_rfl
theorem con122 : Program.concrete Tryz.prog 122 = true := by kernel_rfl
theorem sz123 : szOf Tryz.prog 123 = some 1 := by kernel_rfl
theorem by123 : byOf Tryz.prog 123 = some 8 := by kernel_rfl
theorem ze123 : zeOf Tryz.prog 123 = some (.nilFunc) := by kernel_rfl
theorem ag123 : aggOf Tryz.prog 123 = some false := by kernel_rfl
theorem con123 : Program.concrete Tryz.prog 123 = true := by kernel_rfl
theorem sz125 : szOf Tryz.prog 125 = some 1 := by kernel_rfl
theorem by125 : byOf Tryz.prog 125 = some 8 := by kernel_rfl
theorem ze125 : zeOf Tryz.prog 125 = some (.nilFunc) := by kernel_rfl
theorem ag125 : aggOf Tryz.prog 125 = some false := by kernel_rfl
theorem con125 : Program.concrete Tryz.prog 125 = true := by kernel_rfl
theorem sz126 : szOf Tryz.prog 126 = some 1 := by kernel_rfl
theorem by126 : byOf Tryz.prog 126 = some 8 := by kernel_rfl
theorem ze126 : zeOf Tryz.prog 126 = some (.nilFunc) := by kernel_rfl
theorem ag126 : aggOf Tryz.prog 126 = some false := by kernel_rfl
theorem con126 : Program.concrete Tryz.prog 126 = true := by kernel_rfl
theorem sz127 : szOf Tryz.prog 127 = some 1 := by kernel_rfl
theorem by127 : byOf Tryz.prog 127 = some 8 := by kernel_rfl
theorem ze127 : zeOf Tryz.prog 127 = some (.int .i64 0) := by kernel_rfl
theorem ag127 : aggOf Tryz.prog 127 = some false := by kernel_rfl
theorem con127 : Program.concrete Tryz.prog 127 = true := by kernel_rfl
theorem sz129 : szOf Tryz.prog 129 = some 1 := by kernel_rfl
theorem by129 : byOf Tryz.prog 129 = some 8 := by kernel_rfl
theorem ze129 : zeOf Tryz.prog 129 = some (.nilFunc) := by kernel_rfl
theorem ag129 : aggOf Tryz.prog 129 = some false := by kernel_rfl
theorem con129 : Program.concrete Tryz.prog 129 = true := by kernel_rfl
theorem sz130 : szOf Tryz.prog 130 = some 1 := by kernel_rfl
theorem by130 : byOf Tryz.prog 130 = some 8 := by kernel_rfl
theorem ze130 : zeOf Tryz.prog 130 = some (.pointer none) := by kernel_rfl
theorem ag130 : aggOf Tryz.prog 130 = some false := by kernel_rfl
theorem con130 : Program.concrete Tryz.prog 130 = true := by kernel_rfl
theorem sz131 : szOf Tryz.prog 131 = some 1 := by kernel_rfl
theorem by131 : byOf Tryz.prog 131 = some 8 := by kernel_rfl
theorem ze131 : zeOf Tryz.prog 131 = some (.nilFunc) := by kernel_rfl
theorem ag131 : aggOf Tryz.prog 131 = some false := by kernel_rfl
theorem con131 : Program.concrete Tryz.prog 131 = true := by kernel_rfl
theorem sz132 : szOf Tryz.prog 132 = some 1 := by kernel_rfl
theorem by132 : byOf Tryz.prog 132 = some 8 := by kernel_rfl
theorem ze132 : zeOf Tryz.prog 132 = some (.nilFunc) := by kernel_rfl
theorem ag132 : aggOf Tryz.prog 132 = some false := by kernel_rfl
theorem con132 : Program.concrete Tryz.prog 132 = true := by kernel_rfl
theorem sz133 : szOf Tryz.prog 133 = some 1 := by kernel_rfl
theorem by133 : byOf Tryz.prog 133 = some 8 := by kernel_rfl
theorem ze133 : zeOf Tryz.prog 133 = some (.nilFunc) := by kernel_rfl
theorem ag133 : aggOf Tryz.prog 133 = some false := by kernel_rfl
theorem con133 : Program.concrete Tryz.prog 133 = true := by kernel_rfl
theorem sz134 : szOf Tryz.prog 134 = some 20 := by kernel_rfl
theorem by134 : byOf Tryz.prog 134 = some 160 := by kernel_rfl
theorem ze134 : zeOf Tryz.prog 134 = some (.agg #[.int .u64 0, .int .u64 0, .int .u64 0, .int .u64 0, .int .u64 0, .int .u64 0, .int .u64 0, .int .u64 0, .int .u64 0, .int .u64 0, .int .u64 0, .int .u64 0, .int .u64 0, .int .u64 0, .int .u64 0, .int .u64 0, .int .u64 0, .int .u64 0, .int .u64 0, .int .u64 0]) := by kernel_rfl
theorem ag134 : aggOf Tryz.prog 134 = some true := by kernel_rfl
theorem con134 : Program.concrete Tryz.prog 134 = true := by kernel_rfl
theorem egt134 : Tryz.prog.eqGuardType Tryz.prog.depth 134 = false := by kernel_rfl
theorem sz135 : szOf Tryz.prog 135 = some 65 := by kernel_rfl
theorem by135 : byOf Tryz.prog 135 = some 65 := by kernel_rfl
theorem ag135 : aggOf Tryz.prog 135 = some true := by kernel_rfl
theorem con135 : Program.concrete Tryz.prog 135 = true := by kernel_rfl
theorem egt135 : Tryz.prog.eqGuardType Tryz.prog.depth 135 = false := by kernel_rfl
theorem sz136 : szOf Tryz.prog 136 = some 1 := by kernel_rfl
theorem by136 : byOf Tryz.prog 136 = some 8 := by kernel_rfl
theorem ze136 : zeOf Tryz.prog 136 = some (.nilFunc) := by kernel_rfl
theorem ag136 : aggOf Tryz.prog 136 = some false := by kernel_rfl
theorem con136 : Program.concrete Tryz.prog 136 = true := by kernel_rfl
theorem sz137 : szOf Tryz.prog 137 = some 1 := by kernel_rfl
theorem by137 : byOf Tryz.prog 137 = some 8 := by kernel_rfl
theorem ze137 : zeOf Tryz.prog 137 = some (.nilFunc) := by kernel_rfl
theorem ag137 : aggOf Tryz.prog 137 = some false := by kernel_rfl
theorem con137 : Program.concrete Tryz.prog 137 = true := by kernel_rfl
theorem sz138 : szOf Tryz.prog 138 = some 1 := by kernel_rfl
theorem by138 : byOf Tryz.prog 138 = some 8 := by kernel_rfl
theorem ze138 : zeOf Tryz.prog 138 = some (.nilFunc) := by kernel_rfl
theorem ag138 : aggOf Tryz.prog 138 = some false := by kernel_rfl
theorem con138 : Program.concrete Tryz.prog 138 = true := by kernel_rfl
theorem sz139 : szOf Tryz.prog 139 = some 1 := by kernel_rfl
theorem by139 : byOf Tryz.prog 139 = some 8 := by kernel_rfl
theorem ze139 : zeOf Tryz.prog 139 = some (.pointer none) := by kernel_rfl
theorem ag139 : aggOf Tryz.prog 139 = some false := by kernel_rfl
theorem con139 : Program.concrete Tryz.prog 139 = true := by kernel_rfl
theorem sz140 : szOf Tryz.prog 140 = some 1 := by kernel_rfl
theorem by140 : byOf Tryz.prog 140 = some 8 := by kernel_rfl
theorem ze140 : zeOf Tryz.prog 140 = some (.nilFunc) := by kernel_rfl
theorem ag140 : aggOf Tryz.prog 140 = some false := by kernel_rfl
theorem con140 : Program.concrete Tryz.prog 140 = true := by kernel_rfl
theorem sz141 : szOf Tryz.prog 141 = some 1 := by kernel_rfl
theorem by141 : byOf Tryz.prog 141 = some 8 := by kernel_rfl
theorem ze141 : zeOf Tryz.prog 141 = some (.nilFunc) := by kernel_rfl
theorem ag141 : aggOf Tryz.prog 141 = some false := by kernel_rfl
theorem con141 : Program.concrete Tryz.prog 141 = true := by kernel_rfl
theorem sz142 : szOf Tryz.prog 142 = some 1 := by kernel_rfl
theorem by142 : byOf Tryz.prog 142 = some 8 := by kernel_rfl
theorem ze142 : zeOf Tryz.prog 142 = some (.nilFunc) := by kernel_rfl
theorem ag142 : aggOf Tryz.prog 142 = some false := by kernel_rfl
theorem con142 : Program.concrete Tryz.prog 142 = true := by kernel_rfl
theorem sz143 : szOf Tryz.prog 143 = some 1 := by kernel_rfl
theorem by143 : byOf Tryz.prog 143 = some 8 := by kernel_rfl
theorem ze143 : zeOf Tryz.prog 143 = some (.nilFunc) := by kernel_rfl
theorem ag143 : aggOf Tryz.prog 143 = some false := by kernel_rfl
theorem con143 : Program.concrete Tryz.prog 143 = true := by kernel_rfl
theorem sz144 : szOf Tryz.prog 144 = some 1 := by kernel_rfl
theorem by144 : byOf Tryz.prog 144 = some 8 := by kernel_rfl
theorem ze144 : zeOf Tryz.prog 144 = some (.nilFunc) := by kernel_rfl
theorem ag144 : aggOf Tryz.prog 144 = some false := by kernel_rfl
theorem con144 : Program.concrete Tryz.prog 144 = true := by kernel_rfl
theorem sz145 : szOf Tryz.prog 145 = some 3 := by kernel_rfl
theorem by145 : byOf Tryz.prog 145 = some 48 := by kernel_rfl
theorem ze145 : zeOf Tryz.prog 145 = some (.agg #[.string .empty, .string .empty, .nilIface]) := by kernel_rfl
theorem ag145 : aggOf Tryz.prog 145 = some true := by kernel_rfl
theorem con145 : Program.concrete Tryz.prog 145 = true := by kernel_rfl
theorem sz146 : szOf Tryz.prog 146 = some 3 := by kernel_rfl
theorem by146 : byOf Tryz.prog 146 = some 48 := by kernel_rfl
theorem ze146 : zeOf Tryz.prog 146 = some (.agg #[.string .empty, .string .empty, .nilIface]) := by kernel_rfl
theorem ag146 : aggOf Tryz.prog 146 = some true := by kernel_rfl
theorem con146 : Program.concrete Tryz.prog 146 = true := by kernel_rfl
theorem sz147 : szOf Tryz.prog 147 = some 1 := by kernel_rfl
theorem by147 : byOf Tryz.prog 147 = some 8 := by kernel_rfl
theorem ze147 : zeOf Tryz.prog 147 = some (.nilFunc) := by kernel_rfl
theorem ag147 : aggOf Tryz.prog 147 = some false := by kernel_rfl
theorem con147 : Program.concrete Tryz.prog 147 = true := by kernel_rfl
theorem sz148 : szOf Tryz.prog 148 = some 1 := by kernel_rfl
theorem by148 : byOf Tryz.prog 148 = some 8 := by kernel_rfl
theorem ze148 : zeOf Tryz.prog 148 = some (.nilFunc) := by kernel_rfl
theorem ag148 : aggOf Tryz.prog 148 = some false := by kernel_rfl
theorem con148 : Program.concrete Tryz.prog 148 = true := by kernel_rfl
theorem sz149 : szOf Tryz.prog 149 = some 1 := by kernel_rfl
theorem by149 : byOf Tryz.prog 149 = some 8 := by kernel_rfl
theorem ze149 : zeOf Tryz.prog 149 = some (.nilFunc) := by kernel_rfl
theorem ag149 : aggOf Tryz.prog 149 = some false := by kernel_rfl
theorem con149 : Program.concrete Tryz.prog 149 = true := by kernel_rfl
theorem sz150 : szOf Tryz.prog 150 = some 256 := by kernel_rfl
theorem by150 : byOf Tryz.prog 150 = some 256 := by kernel_rfl
theorem ag150 : aggOf Tryz.prog 150 = some true := by kernel_rfl
theorem con150 : Program.concrete Tryz.prog 150 = true := by kernel_rfl
theorem egt150 : Tryz.prog.eqGuardType Tryz.prog.depth 150 = false := by kernel_rfl
theorem sz151 : szOf Tryz.prog 151 = some 2 := by kernel_rfl
theorem by151 : byOf Tryz.prog 151 = some 2 := by kernel_rfl
theorem ze151 : zeOf Tryz.prog 151 = some (.agg #[.int .u8 0, .int .u8 0]) := by kernel_rfl
theorem ag151 : aggOf Tryz.prog 151 = some true := by kernel_rfl
theorem con151 : Program.concrete Tryz.prog 151 = true := by kernel_rfl
theorem egt151 : Tryz.prog.eqGuardType Tryz.prog.depth 151 = false := by kernel_rfl
theorem sz152 : szOf Tryz.prog 152 = some 2 := by kernel_rfl
theorem by152 : byOf Tryz.prog 152 = some 2 := by kernel_rfl
theorem ze152 : zeOf Tryz.prog 152 = some (.agg #[.int .u8 0, .int .u8 0]) := by kernel_rfl
theorem ag152 : aggOf Tryz.prog 152 = some true := by kernel_rfl
theorem con152 : Program.concrete Tryz.prog 152 = true := by kernel_rfl
theorem egt152 : Tryz.prog.eqGuardType Tryz.prog.depth 152 = false := by kernel_rfl
theorem sz153 : szOf Tryz.prog 153 = some 32 := by kernel_rfl
theorem by153 : byOf Tryz.prog 153 = some 32 := by kernel_rfl
theorem ze153 : zeOf Tryz.prog 153 = some (.agg #[.int .u8 0, .int .u8 0, .int .u8 0, .int .u8 0, .int .u8 0, .int .u8 0, .int .u8 0, .int .u8 0, .int .u8 0, .int .u8 0, .int .u8 0, .int .u8 0, .int .u8 0, .int .u8 0, .int .u8 0, .int .u8 0, .int .u8 0, .int .u8 0, .int .u8 0, .int .u8 0, .int .u8 0, .int .u8 0, .int .u8 0, .int .u8 0, .int .u8 0, .int .u8 0, .int .u8 0, .int .u8 0, .int .u8 0, .int .u8 0, .int .u8 0, .int .u8 0]) := by kernel_rfl
theorem ag153 : aggOf Tryz.prog 153 = some true := by kernel_rfl
theorem con153 : Program.concrete Tryz.prog 153 = true := by kernel_rfl
theorem egt153 : Tryz.prog.eqGuardType Tryz.prog.depth 153 = false := by kernel_rfl
theorem sz154 : szOf Tryz.prog 154 = some 1 := by kernel_rfl
theorem by154 : byOf Tryz.prog 154 = some 8 := by kernel_rfl
theorem ze154 : zeOf Tryz.prog 154 = some (.nilFunc) := by kernel_rfl
theorem ag154 : aggOf Tryz.prog 154 = some false := by kernel_rfl
theorem con154 : Program.concrete Tryz.prog 154 = true := by kernel_rfl
theorem sz155 : szOf Tryz.prog 155 = some 1 := by kernel_rfl
theorem by155 : byOf Tryz.prog 155 = some 8 := by kernel_rfl
theorem ze155 : zeOf Tryz.prog 155 = some (.pointer none) := by kernel_rfl
theorem ag155 : aggOf Tryz.prog 155 = some false := by kernel_rfl
theorem con155 : Program.concrete Tryz.prog 155 = true := by kernel_rfl
theorem sz156 : szOf Tryz.prog 156 = some 1 := by kernel_rfl
theorem by156 : byOf Tryz.prog 156 = some 16 := by kernel_rfl
theorem ze156 : zeOf Tryz.prog 156 = some (.agg #[.string .empty]) := by kernel_rfl
theorem ag156 : aggOf Tryz.prog 156 = some true := by kernel_rfl
theorem con156 : Program.concrete Tryz.prog 156 = true := by kernel_rfl
theorem egt156 : Tryz.prog.eqGuardType Tryz.prog.depth 156 = false := by kernel_rfl
theorem sz157 : szOf Tryz.prog 157 = some 1 := by kernel_rfl
theorem by157 : byOf Tryz.prog 157 = some 16 := by kernel_rfl
theorem ze157 : zeOf Tryz.prog 157 = some (.agg #[.string .empty]) := by kernel_rfl
theorem ag157 : aggOf Tryz.prog 157 = some true := by kernel_rfl
theorem con157 : Program.concrete Tryz.prog 157 = true := by kernel_rfl
theorem egt157 : Tryz.prog.eqGuardType Tryz.prog.depth 157 = false := by kernel_rfl
theorem sz158 : szOf Tryz.prog 158 = some 32 := by kernel_rfl
theorem by158 : byOf Tryz.prog 158 = some 32 := by kernel_rfl
theorem ze158 : zeOf Tryz.prog 158 = some (.agg #[.int .u8 0, .int .u8 0, .int .u8 0, .int .u8 0, .int .u8 0, .int .u8 0, .int .u8 0, .int .u8 0, .int .u8 0, .int .u8 0, .int .u8 0, .int .u8 0, .int .u8 0, .int .u8 0, .int .u8 0, .int .u8 0, .int .u8 0, .int .u8 0, .int .u8 0, .int .u8 0, .int .u8 0, .int .u8 0, .int .u8 0, .int .u8 0, .int .u8 0, .int .u8 0, .int .u8 0, .int .u8 0, .int .u8 0, .int .u8 0, .int .u8 0, .int .u8 0]) := by kernel_rfl
theorem ag158 : aggOf Tryz.prog 158 = some true := by kernel_rfl
theorem con158 : Program.concrete Tryz.prog 158 = true := by kernel_rfl
theorem egt158 : Tryz.prog.eqGuardType Tryz.prog.depth 158 = false := by kernel_rfl
theorem sz159 : szOf Tryz.prog 159 = some 64 := by kernel_rfl
theorem by159 : byOf Tryz.prog 159 = some 64 := by kernel_rfl
theorem ze159 : zeOf Tryz.prog 159 = some (.agg #[.int .u8 0, .int .u8 0, .int .u8 0, .int .u8 0, .int .u8 0, .int .u8 0, .int .u8 0, .int .u8 0, .int .u8 0, .int .u8 0, .int .u8 0, .int .u8 0, .int .u8 0, .int .u8 0, .int .u8 0, .int .u8 0, .int .u8 0, .int .u8 0, .int .u8 0, .int .u8 0, .int .u8 0, .int .u8 0, .int .u8 0, .int .u8 0, .int .u8 0, .int .u8 0, .int .u8 0, .int .u8 0, .int .u8 0, .int .u8 0, .int .u8 0, .int .u8 0, .int .u8 0, .int .u8 0, .int .u8 0, .int .u8 0, .int .u8 0, .int .u8 0, .int .u8 0, .int .u8 0, .int .u8 0, .int .u8 0, .int .u8 0, .int .u8 0, .int .u8 0, .int .u8 0, .int .u8 0, .int .u8 0, .int .u8 0, .int .u8 0, .int .u8 0, .int .u8 0, .int .u8 0, .int .u8 0, .int .u8 0, .int .u8 0, .int .u8 0, .int .u8 0, .int .u8 0, .int .u8 0, .int .u8 0, .int .u8 0, .int .u8 0, .int .u8 0]) := by kernel_rfl
theorem ag159 : aggOf Tryz.prog 159 = some true := by kernel_rfl
theorem con159 : Program.concrete Tryz.prog 159 = true := by kernel_rfl
theorem egt159 : Tryz.prog.eqGuardType Tryz.prog.depth 159 = false := by kernel_rfl
theorem sz160 : szOf Tryz.prog 160 = some 4 := by kernel_rfl
theorem by160 : byOf Tryz.prog 160 = some 40 := by kernel_rfl
theorem ze160 : zeOf Tryz.prog 160 = some (.agg #[.pointer none, .pointer none, .pointer none, .string .empty]) := by kernel_rfl
theorem ag160 : aggOf Tryz.prog 160 = some true := by kernel_rfl
theorem con160 : Program.concrete Tryz.prog 160 = true := by kernel_rfl
theorem egt160 : Tryz.prog.eqGuardType Tryz.prog.depth 160 = false := by kernel_rfl
theorem sz161 : szOf Tryz.prog 161 = some 4 := by kernel_rfl
theorem by161 : byOf Tryz.prog 161 = some 40 := by kernel_rfl
theorem ze161 : zeOf Tryz.prog 161 = some (.agg #[.pointer none, .pointer none, .pointer none, .string .empty]) := by kernel_rfl
theorem ag161 : aggOf Tryz.prog 161 = some true := by kernel_rfl
theorem con161 : Program.concrete Tryz.prog 161 = true := by kernel_rfl
theorem egt161 : Tryz.prog.eqGuardType Tryz.prog.depth 161 = false := by kernel_rfl
theorem sz162 : szOf Tryz.prog 162 = some 0 := by kernel_rfl
theorem by162 : byOf Tryz.prog 162 = some 0 := by kernel_rfl
theorem ze162 : zeOf Tryz.prog 162 = some (.agg #[]) := by kernel_rfl
theorem ag162 : aggOf Tryz.prog 162 = some true := by kernel_rfl
theorem con162 : Program.concrete Tryz.prog 162 = true := by kernel_rfl
theorem egt162 : Tryz.prog.eqGuardType Tryz.prog.depth 162 = false := by kernel_rfl
theorem sz163 : szOf Tryz.prog 163 = some 0 := by kernel_rfl
theorem by163 : byOf Tryz.prog 163 = some 0 := by kernel_rfl
theorem ze163 : zeOf Tryz.prog 163 = some (.agg #[]) := by kernel_rfl
theorem ag163 : aggOf Tryz.prog 163 = some true := by kernel_rfl
theorem con163 : Program.concrete Tryz.prog 163 = true := by kernel_rfl
theorem egt163 : Tryz.prog.eqGuardType Tryz.prog.depth 163 = false := by kernel_rfl
theorem sz164 : szOf Tryz.prog 164 = some 0 := by kernel_rfl
theorem by164 : byOf Tryz.prog 164 = some 0 := by kernel_rfl
theorem ze164 : zeOf Tryz.prog 164 = some (.agg #[]) := by kernel_rfl
theorem ag164 : aggOf Tryz.prog 164 = some true := by kernel_rfl
theorem con164 : Program.concrete Tryz.prog 164 = true := by kernel_rfl
theorem egt164 : Tryz.prog.eqGuardType Tryz.prog.depth 164 = false := by kernel_rfl
theorem sz165 : szOf Tryz.prog 165 = some 1 := by kernel_rfl
theorem by165 : byOf Tryz.prog 165 = some 1 := by kernel_rfl
theorem ze165 : zeOf Tryz.prog 165 = some (.int .u8 0) := by kernel_rfl
theorem ag165 : aggOf Tryz.prog 165 = some false := by kernel_rfl
theorem con165 : Program.concrete Tryz.prog 165 = true := by kernel_rfl
theorem sz166 : szOf Tryz.prog 166 = some 1 := by kernel_rfl
theorem by166 : byOf Tryz.prog 166 = some 1 := by kernel_rfl
theorem ze166 : zeOf Tryz.prog 166 = some (.int .u8 0) := by kernel_rfl
theorem ag166 : aggOf Tryz.prog 166 = some false := by kernel_rfl
theorem con166 : Program.concrete Tryz.prog 166 = true := by kernel_rfl
theorem sz167 : szOf Tryz.prog 167 = some 1 := by kernel_rfl
theorem by167 : byOf Tryz.prog 167 = some 8 := by kernel_rfl
theorem ze167 : zeOf Tryz.prog 167 = some (.nilFunc) := by kernel_rfl
theorem ag167 : aggOf Tryz.prog 167 = some false := by kernel_rfl
theorem con167 : Program.concrete Tryz.prog 167 = true := by kernel_rfl
theorem sz168 : szOf Tryz.prog 168 = some 1 := by kernel_rfl
theorem by168 : byOf Tryz.prog 168 = some 4 := by kernel_rfl
theorem ze168 : zeOf Tryz.prog 168 = some (.int .i32 0) := by kernel_rfl
theorem ag168 : aggOf Tryz.prog 168 = some false := by kernel_rfl
theorem con168 : Program.concrete Tryz.prog 168 = true := by kernel_rfl
theorem sz169 : szOf Tryz.prog 169 = some 1 := by kernel_rfl
theorem by169 : byOf Tryz.prog 169 = some 4 := by kernel_rfl
theorem ze169 : zeOf Tryz.prog 169 = some (.int .i32 0) := by kernel_rfl
theorem ag169 : aggOf Tryz.prog 169 = some false := by kernel_rfl
theorem con169 : Program.concrete Tryz.prog 169 = true := by kernel_rfl
theorem sz170 : szOf Tryz.prog 170 = some 11 := by kernel_rfl
theorem by170 : byOf Tryz.prog 170 = some 48 := by kernel_rfl
theorem ze170 : zeOf Tryz.prog 170 = some (.agg #[.int .u64 0, .int .u64 0, .int .u32 0, .int .u8 0, .int .u8 0, .int .u8 0, .int .u8 0, .nilFunc, .pointer none, .int .i32 0, .int .i32 0]) := by kernel_rfl
theorem ag170 : aggOf Tryz.prog 170 = some true := by kernel_rfl
theorem con170 : Program.concrete Tryz.prog 170 = true := by kernel_rfl
theorem egt170 : Tryz.prog.eqGuardType Tryz.prog.depth 170 = false := by kernel_rfl
theorem sz171 : szOf Tryz.prog 171 = some 11 := by kernel_rfl
theorem by171 : byOf Tryz.prog 171 = some 48 := by kernel_rfl
theorem ze171 : zeOf Tryz.prog 171 = some (.agg #[.int .u64 0, .int .u64 0, .int .u32 0, .int .u8 0, .int .u8 0, .int .u8 0, .int .u8 0, .nilFunc, .pointer none, .int .i32 0, .int .i32 0]) := by kernel_rfl
theorem ag171 : aggOf Tryz.prog 171 = some true := by kernel_rfl
theorem con171 : Program.concrete Tryz.prog 171 = true := by kernel_rfl
theorem egt171 : Tryz.prog.eqGuardType Tryz.prog.depth 171 = false := by kernel_rfl
theorem fld7_0 (c0 c1 c2 c3 : AVal) : pField Tryz.prog 7 (.agg [c0, c1, c2, c3]) 0 = ⟨0 < 4, c0⟩ := by kernel_rfl
theorem fa7_0 (l : AM.Loc) (o : Nat) : pFieldAddr Tryz.prog 7 (.ptr l o) 0 = ⟨1 ≠ 0, .ptr l (o + 0)⟩ := by kernel_rfl
theorem fld7_1 (c0 c1 c2 c3 : AVal) : pField Tryz.prog 7 (.agg [c0, c1, c2, c3]) 1 = ⟨1 < 4, c1⟩ := by kernel_rfl
theorem fa7_1 (l : AM.Loc) (o : Nat) : pFieldAddr Tryz.prog 7 (.ptr l o) 1 = ⟨1 ≠ 0, .ptr l (o + 1)⟩ := by kernel_rfl
theorem fld7_2 (c0 c1 c2 c3 : AVal) : pField Tryz.prog 7 (.agg [c0, c1, c2, c3]) 2 = ⟨2 < 4, c2⟩ := by kernel_rfl
theorem fa7_2 (l : AM.Loc) (o : Nat) : pFieldAddr Tryz.prog 7 (.ptr l o) 2 = ⟨1 ≠ 0, .ptr l (o + 2)⟩ := by kernel_rfl
theorem fld7_3 (c0 c1 c2 c3 : AVal) : pField Tryz.prog 7 (.agg [c0, c1, c2, c3]) 3 = ⟨3 < 4, c3⟩ := by kernel_rfl
theorem fa7_3 (l : AM.Loc) (o : Nat) : pFieldAddr Tryz.prog 7 (.ptr l o) 3 = ⟨1 ≠ 0, .ptr l (o + 3)⟩ := by kernel_rfl
theorem fld13_0 (c0 c1 : AVal) : pField Tryz.prog 13 (.agg [c0, c1]) 0 = ⟨0 < 2, c0⟩ := by kernel_rfl
theorem fa13_0 (l : AM.Loc) (o : Nat) : pFieldAddr Tryz.prog 13 (.ptr l o) 0 = ⟨1 ≠ 0, .ptr l (o + 0)⟩ := by kernel_rfl
theorem fld13_1 (c0 c1 : AVal) : pField Tryz.prog 13 (.agg [c0, c1]) 1 = ⟨1 < 2, c1⟩ := by kernel_rfl
theorem fa13_1 (l : AM.Loc) (o : Nat) : pFieldAddr Tryz.prog 13 (.ptr l o) 1 = ⟨1 ≠ 0, .ptr l (o + 1)⟩ := by kernel_rfl
theorem fld18_0 (c0 : AVal) : pField Tryz.prog 18 (.agg [c0]) 0 = ⟨0 < 1, c0⟩ := by kernel_rfl
theorem fa18_0 (l : AM.Loc) (o : Nat) : pFieldAddr Tryz.prog 18 (.ptr l o) 0 = ⟨1 ≠ 0, .ptr l (o + 0)⟩ := by kernel_rfl
theorem fld23_0 (c0 c1 c2 : AVal) : pField Tryz.prog 23 (.agg [c0, c1, c2]) 0 = ⟨0 < 3, c0⟩ := by kernel_rfl
theorem fa23_0 (l : AM.Loc) (o : Nat) : pFieldAddr Tryz.prog 23 (.ptr l o) 0 = ⟨1 ≠ 0, .ptr l (o + 0)⟩ := by kernel_rfl
theorem fld23_1 (c0 c1 c2 : AVal) : pField Tryz.prog 23 (.agg [c0, c1, c2]) 1 = ⟨1 < 3, c1⟩ := by kernel_rfl
theorem fa23_1 (l : AM.Loc) (o : Nat) : pFieldAddr Tryz.prog 23 (.ptr l o) 1 = ⟨1 ≠ 0, .ptr l (o + 1)⟩ := by kernel_rfl
theorem fld23_2 (c0 c1 c2 : AVal) : pField Tryz.prog 23 (.agg [c0, c1, c2]) 2 = ⟨2 < 3, c2⟩ := by kernel_rfl
theorem fa23_2 (l : AM.Loc) (o : Nat) : pFieldAddr Tryz.prog 23 (.ptr l o) 2 = ⟨1 ≠ 0, .ptr l (o + 2)⟩ := by kernel_rfl
theorem fld24_0 (c0 c1 c2 : AVal) : pField Tryz.prog 24 (.agg [c0, c1, c2]) 0 = ⟨0 < 3, c0⟩ := by kernel_rfl
theorem fa24_0 (l : AM.Loc) (o : Nat) : pFieldAddr Tryz.prog 24 (.ptr l o) 0 = ⟨1 ≠ 0, .ptr l (o + 0)⟩ := by kernel_rfl
theorem fld24_1 (c0 c1 c2 : AVal) : pField Tryz.prog 24 (.agg [c0, c1, c2]) 1 = ⟨1 < 3, c1⟩ := by kernel_rfl
theorem fa24_1 (l : AM.Loc) (o : Nat) : pFieldAddr Tryz.prog 24 (.ptr l o) 1 = ⟨1 ≠ 0, .ptr l (o + 1)⟩ := by kernel_rfl
theorem fld24_2 (c0 c1 c2 : AVal) : pField Tryz.prog 24 (.agg [c0, c1, c2]) 2 = ⟨2 < 3, c2⟩ := by kernel_rfl
theorem fa24_2 (l : AM.Loc) (o : Nat) : pFieldAddr Tryz.prog 24 (.ptr l o) 2 = ⟨1 ≠ 0, .ptr l (o + 2)⟩ := by kernel_rfl
theorem fld26_0 (c0 c1 c2 : AVal) : pField Tryz.prog 26 (.agg [c0, c1, c2]) 0 = ⟨0 < 3, c0⟩ := by kernel_rfl
theorem fa26_0 (l : AM.Loc) (o : Nat) : pFieldAddr Tryz.prog 26 (.ptr l o) 0 = ⟨1 ≠ 0, .ptr l (o + 0)⟩ := by kernel_rfl
theorem fld26_1 (c0 c1 c2 : AVal) : pField Tryz.prog 26 (.agg [c0, c1, c2]) 1 = ⟨1 < 3, c1⟩ := by kernel_rfl
theorem fa26_1 (l : AM.Loc) (o : Nat) : pFieldAddr Tryz.prog 26 (.ptr l o) 1 = ⟨1 ≠ 0, .ptr l (o + 1)⟩ := by kernel_rfl
theorem fld26_2 (c0 c1 c2 : AVal) : pField Tryz.prog 26 (.agg [c0, c1, c2]) 2 = ⟨2 < 3, c2⟩ := by kernel_rfl
theorem fa26_2 (l : AM.Loc) (o : Nat) : pFieldAddr Tryz.prog 26 (.ptr l o) 2 = ⟨1 ≠ 0, .ptr l (o + 2)⟩ := by kernel_rfl
theorem fld27_0 (c0 c1 c2 : AVal) : pField Tryz.prog 27 (.agg [c0, c1, c2]) 0 = ⟨0 < 3, c0⟩ := by kernel_rfl
theorem fa27_0 (l : AM.Loc) (o : Nat) : pFieldAddr Tryz.prog 27 (.ptr l o) 0 = ⟨1 ≠ 0, .ptr l (o + 0)⟩ := by kernel_rfl
theorem fld27_1 (c0 c1 c2 : AVal) : pField Tryz.prog 27 (.agg [c0, c1, c2]) 1 = ⟨1 < 3, c1⟩ := by kernel_rfl
theorem fa27_1 (l : AM.Loc) (o : Nat) : pFieldAddr Tryz.prog 27 (.ptr l o) 1 = ⟨1 ≠ 0, .ptr l (o + 1)⟩ := by kernel_rfl
theorem fld27_2 (c0 c1 c2 : AVal) : pField Tryz.prog 27 (.agg [c0, c1, c2]) 2 = ⟨2 < 3, c2⟩ := by kernel_rfl
theorem fa27_2 (l : AM.Loc) (o : Nat) : pFieldAddr Tryz.prog 27 (.ptr l o) 2 = ⟨1 ≠ 0, .ptr l (o + 2)⟩ := by kernel_rfl
theorem eqv27 (a0 b0 : Bool) (a1 b1 : List UInt8) (a2 b2 : Int) : (eqA Tryz.prog 40 27 (.agg [.bool a0, .str a1, .int .i64 a2]) (.agg [.bool b0, .str b1, .int .i64 b2])).val = .bool ((a0 == b0) && (decide (a1 = b1) && (decide (a2 = b2) && true))) := by kernel_rfl
theorem eqp27 (a0 b0 : Bool) (a1 b1 : List UInt8) (a2 b2 : Int) : (eqA Tryz.prog 40 27 (.agg [.bool a0, .str a1, .int .i64 a2]) (.agg [.bool b0, .str b1, .int .i64 b2])).pre = ((0 < 3) ∧ (0 < 3) ∧ True ∧ ((1 < 3) ∧ (1 < 3) ∧ True ∧ ((2 < 3) ∧ (2 < 3) ∧ True ∧ True))) := by kernel_rfl
theorem eq27 (a0 b0 : Bool) (a1 b1 : List UInt8) (a2 b2 : Int) : pAggEq Tryz.prog .eql 27 (.agg [.bool a0, .str a1, .int .i64 a2]) (.agg [.bool b0, .str b1, .int .i64 b2]) = ⟨True, .bool ((a0 == b0) && (decide (a1 = b1) && (decide (a2 = b2) && true)))⟩ := by
  simp only [pAggEq, eqv27, eqp27, egt27, PR.mk.injEq, and_true]; decide
theorem ne27 (a0 b0 : Bool) (a1 b1 : List UInt8) (a2 b2 : Int) : pAggEq Tryz.prog .neq 27 (.agg [.bool a0, .str a1, .int .i64 a2]) (.agg [.bool b0, .str b1, .int .i64 b2]) = ⟨True, .bool (!((a0 == b0) && (decide (a1 = b1) && (decide (a2 = b2) && true))))⟩ := by
  simp only [pAggEq, eqv27, eqp27, egt27, PR.mk.injEq, and_true]; decide
theorem fld39_0 (c0 c1 : AVal) : pField Tryz.prog 39 (.agg [c0, c1]) 0 = ⟨0 < 2, c0⟩ := by kernel_rfl
theorem fa39_0 (l : AM.Loc) (o : Nat) : pFieldAddr Tryz.prog 39 (.ptr l o) 0 = ⟨1 ≠ 0, .ptr l (o + 0)⟩ := by kernel_rfl
theorem fld39_1 (c0 c1 : AVal) : pField Tryz.prog 39 (.agg [c0, c1]) 1 = ⟨1 < 2, c1⟩ := by kernel_rfl
theorem fa39_1 (l : AM.Loc) (o : Nat) : pFieldAddr Tryz.prog 39 (.ptr l o) 1 = ⟨1 ≠ 0, .ptr l (o + 1)⟩ := by kernel_rfl
theorem fld40_0 (c0 c1 : AVal) : pField Tryz.prog 40 (.agg [c0, c1]) 0 = ⟨0 < 2, c0⟩ := by kernel_rfl
theorem fa40_0 (l : AM.Loc) (o : Nat) : pFieldAddr Tryz.prog 40 (.ptr l o) 0 = ⟨1 ≠ 0, .ptr l (o + 0)⟩ := by kernel_rfl
theorem fld40_1 (c0 c1 : AVal) : pField Tryz.prog 40 (.agg [c0, c1]) 1 = ⟨1 < 2, c1⟩ := by kernel_rfl
theorem fa40_1 (l : AM.Loc) (o : Nat) : pFieldAddr Tryz.prog 40 (.ptr l o) 1 = ⟨1 ≠ 0, .ptr l (o + 1)⟩ := by kernel_rfl
theorem fld94_0 (c0 c1 : AVal) : pField Tryz.prog 94 (.agg [c0, c1]) 0 = ⟨0 < 2, c0⟩ := by kernel_rfl
theorem fa94_0 (l : AM.Loc) (o : Nat) : pFieldAddr Tryz.prog 94 (.ptr l o) 0 = ⟨1 ≠ 0, .ptr l (o + 0)⟩ := by kernel_rfl
theorem fld94_1 (c0 c1 : AVal) : pField Tryz.prog 94 (.agg [c0, c1]) 1 = ⟨1 < 2, c1⟩ := by kernel_rfl
theorem fa94_1 (l : AM.Loc) (o : Nat) : pFieldAddr Tryz.prog 94 (.ptr l o) 1 = ⟨1 ≠ 0, .ptr l (o + 1)⟩ := by kernel_rfl
theorem fld95_0 (c0 c1 : AVal) : pField Tryz.prog 95 (.agg [c0, c1]) 0 = ⟨0 < 2, c0⟩ := by kernel_rfl
theorem fa95_0 (l : AM.Loc) (o : Nat) : pFieldAddr Tryz.prog 95 (.ptr l o) 0 = ⟨1 ≠ 0, .ptr l (o + 0)⟩ := by kernel_rfl
theorem fld95_1 (c0 c1 : AVal) : pField Tryz.prog 95 (.agg [c0, c1]) 1 = ⟨1 < 2, c1⟩ := by kernel_rfl
theorem fa95_1 (l : AM.Loc) (o : Nat) : pFieldAddr Tryz.prog 95 (.ptr l o) 1 = ⟨1 ≠ 0, .ptr l (o + 1)⟩ := by kernel_rfl
theorem fld145_0 (c0 c1 c2 : AVal) : pField Tryz.prog 145 (.agg [c0, c1, c2]) 0 = ⟨0 < 3, c0⟩ := by kernel_rfl
theorem fa145_0 (l : AM.Loc) (o : Nat) : pFieldAddr Tryz.prog 145 (.ptr l o) 0 = ⟨1 ≠ 0, .ptr l (o + 0)⟩ := by kernel_rfl
theorem fld145_1 (c0 c1 c2 : AVal) : pField Tryz.prog 145 (.agg [c0, c1, c2]) 1 = ⟨1 < 3, c1⟩ := by kernel_rfl
theorem fa145_1 (l : AM.Loc) (o : Nat) : pFieldAddr Tryz.prog 145 (.ptr l o) 1 = ⟨1 ≠ 0, .ptr l (o + 1)⟩ := by kernel_rfl
theorem fld145_2 (c0 c1 c2 : AVal) : pField Tryz.prog 145 (.agg [c0, c1, c2]) 2 = ⟨2 < 3, c2⟩ := by kernel_rfl
theorem fa145_2 (l : AM.Loc) (o : Nat) : pFieldAddr Tryz.prog 145 (.ptr l o) 2 = ⟨1 ≠ 0, .ptr l (o + 2)⟩ := by kernel_rfl
theorem fld151_0 (c0 c1 : AVal) : pField Tryz.prog 151 (.agg [c0, c1]) 0 = ⟨0 < 2, c0⟩ := by kernel_rfl
theorem fa151_0 (l : AM.Loc) (o : Nat) : pFieldAddr Tryz.prog 151 (.ptr l o) 0 = ⟨1 ≠ 0, .ptr l (o + 0)⟩ := by kernel_rfl
theorem fld151_1 (c0 c1 : AVal) : pField Tryz.prog 151 (.agg [c0, c1]) 1 = ⟨1 < 2, c1⟩ := by kernel_rfl
theorem fa151_1 (l : AM.Loc) (o : Nat) : pFieldAddr Tryz.prog 151 (.ptr l o) 1 = ⟨1 ≠ 0, .ptr l (o + 1)⟩ := by kernel_rfl
theorem fld156_0 (c0 : AVal) : pField Tryz.prog 156 (.agg [c0]) 0 = ⟨0 < 1, c0⟩ := by kernel_rfl
theorem fa156_0 (l : AM.Loc) (o : Nat) : pFieldAddr Tryz.prog 156 (.ptr l o) 0 = ⟨1 ≠ 0, .ptr l (o + 0)⟩ := by kernel_rfl
theorem fld160_0 (c0 c1 c2 c3 : AVal) : pField Tryz.prog 160 (.agg [c0, c1, c2, c3]) 0 = ⟨0 < 4, c0⟩ := by kernel_rfl
theorem fa160_0 (l : AM.Loc) (o : Nat) : pFieldAddr Tryz.prog 160 (.ptr l o) 0 = ⟨1 ≠ 0, .ptr l (o + 0)⟩ := by kernel_rfl
theorem fld160_1 (c0 c1 c2 c3 : AVal) : pField Tryz.prog 160 (.agg [c0, c1, c2, c3]) 1 = ⟨1 < 4, c1⟩ := by kernel_rfl
theorem fa160_1 (l : AM.Loc) (o : Nat) : pFieldAddr Tryz.prog 160 (.ptr l o) 1 = ⟨1 ≠ 0, .ptr l (o + 1)⟩ := by kernel_rfl
theorem fld160_2 (c0 c1 c2 c3 : AVal) : pField Tryz.prog 160 (.agg [c0, c1, c2, c3]) 2 = ⟨2 < 4, c2⟩ := by kernel_rfl
theorem fa160_2 (l : AM.Loc) (o : Nat) : pFieldAddr Tryz.prog 160 (.ptr l o) 2 = ⟨1 ≠ 0, .ptr l (o + 2)⟩ := by kernel_rfl
theorem fld160_3 (c0 c1 c2 c3 : AVal) : pField Tryz.prog 160 (.agg [c0, c1, c2, c3]) 3 = ⟨3 < 4, c3⟩ := by kernel_rfl
theorem fa160_3 (l : AM.Loc) (o : Nat) : pFieldAddr Tryz.prog 160 (.ptr l o) 3 = ⟨1 ≠ 0, .ptr l (o + 3)⟩ := by kernel_rfl
theorem fld170_0 (c0 c1 c2 c3 c4 c5 c6 c7 c8 c9 c10 : AVal) : pField Tryz.prog 170 (.agg [c0, c1, c2, c3, c4, c5, c6, c7, c8, c9, c10]) 0 = ⟨0 < 11, c0⟩ := by kernel_rfl
theorem fa170_0 (l : AM.Loc) (o : Nat) : pFieldAddr Tryz.prog 170 (.ptr l o) 0 = ⟨1 ≠ 0, .ptr l (o + 0)⟩ := by kernel_rfl
theorem fld170_1 (c0 c1 c2 c3 c4 c5 c6 c7 c8 c9 c10 : AVal) : pField Tryz.prog 170 (.agg [c0, c1, c2, c3, c4, c5, c6, c7, c8, c9, c10]) 1 = ⟨1 < 11, c1⟩ := by kernel_rfl
theorem fa170_1 (l : AM.Loc) (o : Nat) : pFieldAddr Tryz.prog 170 (.ptr l o) 1 = ⟨1 ≠ 0, .ptr l (o + 1)⟩ := by kernel_rfl
theorem fld170_2 (c0 c1 c2 c3 c4 c5 c6 c7 c8 c9 c10 : AVal) : pField Tryz.prog 170 (.agg [c0, c1, c2, c3, c4, c5, c6, c7, c8, c9, c10]) 2 = ⟨2 < 11, c2⟩ := by kernel_rfl
theorem fa170_2 (l : AM.Loc) (o : Nat) : pFieldAddr Tryz.prog 170 (.ptr l o) 2 = ⟨1 ≠ 0, .ptr l (o + 2)⟩ := by kernel_rfl
theorem fld170_3 (c0 c1 c2 c3 c4 c5 c6 c7 c8 c9 c10 : AVal) : pField Tryz.prog 170 (.agg [c0, c1, c2, c3, c4, c5, c6, c7, c8, c9, c10]) 3 = ⟨3 < 11, c3⟩ := by kernel_rfl
theorem fa170_3 (l : AM.Loc) (o : Nat) : pFieldAddr Tryz.prog 170 (.ptr l o) 3 = ⟨1 ≠ 0, .ptr l (o + 3)⟩ := by kernel_rfl
theorem fld170_4 (c0 c1 c2 c3 c4 c5 c6 c7 c8 c9 c10 : AVal) : pField Tryz.prog 170 (.agg [c0, c1, c2, c3, c4, c5, c6, c7, c8, c9, c10]) 4 = ⟨4 < 11, c4⟩ := by kernel_rfl
theorem fa170_4 (l : AM.Loc) (o : Nat) : pFieldAddr Tryz.prog 170 (.ptr l o) 4 = ⟨1 ≠ 0, .ptr l (o + 4)⟩ := by kernel_rfl
theorem fld170_5 (c0 c1 c2 c3 c4 c5 c6 c7 c8 c9 c10 : AVal) : pField Tryz.prog 170 (.agg [c0, c1, c2, c3, c4, c5, c6, c7, c8, c9, c10]) 5 = ⟨5 < 11, c5⟩ := by kernel_rfl
theorem fa170_5 (l : AM.Loc) (o : Nat) : pFieldAddr Tryz.prog 170 (.ptr l o) 5 = ⟨1 ≠ 0, .ptr l (o + 5)⟩ := by kernel_rfl
theorem fld170_6 (c0 c1 c2 c3 c4 c5 c6 c7 c8 c9 c10 : AVal) : pField Tryz.prog 170 (.agg [c0, c1, c2, c3, c4, c5, c6, c7, c8, c9, c10]) 6 = ⟨6 < 11, c6⟩ := by kernel_rfl
theorem fa170_6 (l : AM.Loc) (o : Nat) : pFieldAddr Tryz.prog 170 (.ptr l o) 6 = ⟨1 ≠ 0, .ptr l (o + 6)⟩ := by kernel_rfl
theorem fld170_7 (c0 c1 c2 c3 c4 c5 c6 c7 c8 c9 c10 : AVal) : pField Tryz.prog 170 (.agg [c0, c1, c2, c3, c4, c5, c6, c7, c8, c9, c10]) 7 = ⟨7 < 11, c7⟩ := by kernel_rfl
theorem fa170_7 (l : AM.Loc) (o : Nat) : pFieldAddr Tryz.prog 170 (.ptr l o) 7 = ⟨1 ≠ 0, .ptr l (o + 7)⟩ := by kernel_rfl
theorem fld170_8 (c0 c1 c2 c3 c4 c5 c6 c7 c8 c9 c10 : AVal) : pField Tryz.prog 170 (.agg [c0, c1, c2, c3, c4, c5, c6, c7, c8, c9, c10]) 8 = ⟨8 < 11, c8⟩ := by kernel_rfl
theorem fa170_8 (l : AM.Loc) (o : Nat) : pFieldAddr Tryz.prog 170 (.ptr l o) 8 = ⟨1 ≠ 0, .ptr l (o + 8)⟩ := by kernel_rfl
theorem fld170_9 (c0 c1 c2 c3 c4 c5 c6 c7 c8 c9 c10 : AVal) : pField Tryz.prog 170 (.agg [c0, c1, c2, c3, c4, c5, c6, c7, c8, c9, c10]) 9 = ⟨9 < 11, c9⟩ := by kernel_rfl
theorem fa170_9 (l : AM.Loc) (o : Nat) : pFieldAddr Tryz.prog 170 (.ptr l o) 9 = ⟨1 ≠ 0, .ptr l (o + 9)⟩ := by kernel_rfl
theorem fld170_10 (c0 c1 c2 c3 c4 c5 c6 c7 c8 c9 c10 : AVal) : pField Tryz.prog 170 (.agg [c0, c1, c2, c3, c4, c5, c6, c7, c8, c9, c10]) 10 = ⟨10 < 11, c10⟩ := by kernel_rfl
theorem fa170_10 (l : AM.Loc) (o : Nat) : pFieldAddr Tryz.prog 170 (.ptr l o) 10 = ⟨1 ≠ 0, .ptr l (o + 10)⟩ := by kernel_rfl
theorem bld27_ : pBuild Tryz.prog 27 [] = ⟨True, .agg [.bool false, .str [], .int .i64 0]⟩ := by kernel_rfl
theorem bld40_1 (x1 : AVal) (hx1 : Sc x1) : pBuild Tryz.prog 40 [(1, x1)] = ⟨True, .agg [.bool false, x1]⟩ := by (cases x1 <;> first | exact hx1.elim | skip) <;> kernel_rfl
theorem bld27_0_1_2 (x0 : Bool) (x1 : List UInt8) (x2 : Int) : pBuild Tryz.prog 27 [(0, .bool x0), (1, .str x1), (2, .int .i64 x2)] = ⟨True, .agg [.bool x0, .str x1, .int .i64 x2]⟩ := by kernel_rfl
theorem bld27_1_2 (x1 : List UInt8) (x2 : Int) : pBuild Tryz.prog 27 [(1, .str x1), (2, .int .i64 x2)] = ⟨True, .agg [.bool false, .str x1, .int .i64 x2]⟩ := by kernel_rfl
theorem bld27_1 (x1 : List UInt8) : pBuild Tryz.prog 27 [(1, .str x1)] = ⟨True, .agg [.bool false, .str x1, .int .i64 0]⟩ := by kernel_rfl
theorem bld40_0_1 (x0 : Bool) (x1 : AVal) (hx1 : Sc x1) : pBuild Tryz.prog 40 [(0, .bool x0), (1, x1)] = ⟨True, .agg [.bool x0, x1]⟩ := by (cases x1 <;> first | exact hx1.elim | skip) <;> kernel_rfl
theorem bld40_0 (x0 : Bool) : pBuild Tryz.prog 40 [(0, .bool x0)] = ⟨True, .agg [.bool x0, .nilSlice]⟩ := by kernel_rfl
theorem bld27_0_1 (x0 : Bool) (x1 : List UInt8) : pBuild Tryz.prog 27 [(0, .bool x0), (1, .str x1)] = ⟨True, .agg [.bool x0, .str x1, .int .i64 0]⟩ := by kernel_rfl
theorem mixed : Tryz.prog.follows .mixedOrders = true := by kernel_rfl
end Go.Proofs.YthiiakghjoeikaaGreatDoor
