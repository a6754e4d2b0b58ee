/-
  Facts on the types of this seat's translation, by program (gen_ty.py): cells, bytes, zero values.
  Conditions: none.
-/
import Derived.Test.YtmnlmfiokbnhhaaAmO
import Derived.Test.YtmnlmfiokbnhhaaRows
import Derived.KernelRfl
set_option linter.unusedSimpArgs false
set_option linter.unusedVariables false
namespace Go.Proofs.Ytmnlmfiokbnhhaa
open Go.AM

theorem sz1 : szOf Try.prog 1 = some 1 := by kernel_rfl
theorem by1 : byOf Try.prog 1 = some 8 := by kernel_rfl
theorem ze1 : zeOf Try.prog 1 = some (.nilFunc) := by kernel_rfl
theorem ag1 : aggOf Try.prog 1 = some false := by kernel_rfl
theorem con1 : Program.concrete Try.prog 1 = true := by kernel_rfl
theorem sz2 : szOf Try.prog 2 = some 1 := by kernel_rfl
theorem by2 : byOf Try.prog 2 = some 8 := by kernel_rfl
theorem ze2 : zeOf Try.prog 2 = some (.int .i64 0) := by kernel_rfl
theorem ag2 : aggOf Try.prog 2 = some false := by kernel_rfl
theorem con2 : Program.concrete Try.prog 2 = true := by kernel_rfl
theorem sz3 : szOf Try.prog 3 = some 1 := by kernel_rfl
theorem by3 : byOf Try.prog 3 = some 8 := by kernel_rfl
theorem ze3 : zeOf Try.prog 3 = some (.int .i64 0) := by kernel_rfl
theorem ag3 : aggOf Try.prog 3 = some false := by kernel_rfl
theorem con3 : Program.concrete Try.prog 3 = true := by kernel_rfl
theorem sz4 : szOf Try.prog 4 = some 1 := by kernel_rfl
theorem by4 : byOf Try.prog 4 = some 1 := by kernel_rfl
theorem ze4 : zeOf Try.prog 4 = some (.bool false) := by kernel_rfl
theorem ag4 : aggOf Try.prog 4 = some false := by kernel_rfl
theorem con4 : Program.concrete Try.prog 4 = true := by kernel_rfl
theorem sz5 : szOf Try.prog 5 = some 1 := by kernel_rfl
theorem by5 : byOf Try.prog 5 = some 1 := by kernel_rfl
theorem ze5 : zeOf Try.prog 5 = some (.int .u8 0) := by kernel_rfl
theorem ag5 : aggOf Try.prog 5 = some false := by kernel_rfl
theorem con5 : Program.concrete Try.prog 5 = true := by kernel_rfl
theorem sz6 : szOf Try.prog 6 = some 1 := by kernel_rfl
theorem by6 : byOf Try.prog 6 = some 1 := by kernel_rfl
theorem ze6 : zeOf Try.prog 6 = some (.int .u8 0) := by kernel_rfl
theorem ag6 : aggOf Try.prog 6 = some false := by kernel_rfl
theorem con6 : Program.concrete Try.prog 6 = true := by kernel_rfl
theorem sz7 : szOf Try.prog 7 = some 4 := by kernel_rfl
theorem by7 : byOf Try.prog 7 = some 24 := by kernel_rfl
theorem ze7 : zeOf Try.prog 7 = some (.agg #[.int .i64 0, .int .i64 0, .bool false, .int .u8 0]) := by kernel_rfl
theorem ag7 : aggOf Try.prog 7 = some true := by kernel_rfl
theorem con7 : Program.concrete Try.prog 7 = true := by kernel_rfl
theorem egt7 : Try.prog.eqGuardType Try.prog.depth 7 = false := by kernel_rfl
theorem sz8 : szOf Try.prog 8 = some 4 := by kernel_rfl
theorem by8 : byOf Try.prog 8 = some 24 := by kernel_rfl
theorem ze8 : zeOf Try.prog 8 = some (.agg #[.int .i64 0, .int .i64 0, .bool false, .int .u8 0]) := by kernel_rfl
theorem ag8 : aggOf Try.prog 8 = some true := by kernel_rfl
theorem con8 : Program.concrete Try.prog 8 = true := by kernel_rfl
theorem egt8 : Try.prog.eqGuardType Try.prog.depth 8 = false := by kernel_rfl
theorem sz9 : szOf Try.prog 9 = some 1 := by kernel_rfl
theorem by9 : byOf Try.prog 9 = some 16 := by kernel_rfl
theorem ze9 : zeOf Try.prog 9 = some (.string .empty) := by kernel_rfl
theorem ag9 : aggOf Try.prog 9 = some false := by kernel_rfl
theorem con9 : Program.concrete Try.prog 9 = true := by kernel_rfl
theorem sz10 : szOf Try.prog 10 = some 1 := by kernel_rfl
theorem by10 : byOf Try.prog 10 = some 16 := by kernel_rfl
theorem ze10 : zeOf Try.prog 10 = some (.string .empty) := by kernel_rfl
theorem ag10 : aggOf Try.prog 10 = some false := by kernel_rfl
theorem con10 : Program.concrete Try.prog 10 = true := by kernel_rfl
theorem sz11 : szOf Try.prog 11 = some 1 := by kernel_rfl
theorem by11 : byOf Try.prog 11 = some 16 := by kernel_rfl
theorem ze11 : zeOf Try.prog 11 = some (.string .empty) := by kernel_rfl
theorem ag11 : aggOf Try.prog 11 = some false := by kernel_rfl
theorem con11 : Program.concrete Try.prog 11 = true := by kernel_rfl
theorem sz12 : szOf Try.prog 12 = some 1 := by kernel_rfl
theorem by12 : byOf Try.prog 12 = some 8 := by kernel_rfl
theorem ze12 : zeOf Try.prog 12 = some (.int .u64 0) := by kernel_rfl
theorem ag12 : aggOf Try.prog 12 = some false := by kernel_rfl
theorem con12 : Program.concrete Try.prog 12 = true := by kernel_rfl
theorem sz13 : szOf Try.prog 13 = some 2 := by kernel_rfl
theorem by13 : byOf Try.prog 13 = some 24 := by kernel_rfl
theorem ze13 : zeOf Try.prog 13 = some (.agg #[.string .empty, .int .u64 0]) := by kernel_rfl
theorem ag13 : aggOf Try.prog 13 = some true := by kernel_rfl
theorem con13 : Program.concrete Try.prog 13 = true := by kernel_rfl
theorem egt13 : Try.prog.eqGuardType Try.prog.depth 13 = false := by kernel_rfl
theorem sz14 : szOf Try.prog 14 = some 2 := by kernel_rfl
theorem by14 : byOf Try.prog 14 = some 24 := by kernel_rfl
theorem ze14 : zeOf Try.prog 14 = some (.agg #[.string .empty, .int .u64 0]) := by kernel_rfl
theorem ag14 : aggOf Try.prog 14 = some true := by kernel_rfl
theorem con14 : Program.concrete Try.prog 14 = true := by kernel_rfl
theorem egt14 : Try.prog.eqGuardType Try.prog.depth 14 = false := by kernel_rfl
theorem sz15 : szOf Try.prog 15 = some 1 := by kernel_rfl
theorem by15 : byOf Try.prog 15 = some 8 := by kernel_rfl
theorem ze15 : zeOf Try.prog 15 = some (.pointer none) := by kernel_rfl
theorem ag15 : aggOf Try.prog 15 = some false := by kernel_rfl
theorem con15 : Program.concrete Try.prog 15 = true := by kernel_rfl
theorem sz16 : szOf Try.prog 16 = some 1 := by kernel_rfl
theorem by16 : byOf Try.prog 16 = some 8 := by kernel_rfl
theorem ze16 : zeOf Try.prog 16 = some (.pointer none) := by kernel_rfl
theorem ag16 : aggOf Try.prog 16 = some false := by kernel_rfl
theorem con16 : Program.concrete Try.prog 16 = true := by kernel_rfl
theorem sz17 : szOf Try.prog 17 = some 1 := by kernel_rfl
theorem by17 : byOf Try.prog 17 = some 8 := by kernel_rfl
theorem ze17 : zeOf Try.prog 17 = some (.pointer none) := by kernel_rfl
theorem ag17 : aggOf Try.prog 17 = some false := by kernel_rfl
theorem con17 : Program.concrete Try.prog 17 = true := by kernel_rfl
theorem sz18 : szOf Try.prog 18 = some 1 := by kernel_rfl
theorem by18 : byOf Try.prog 18 = some 8 := by kernel_rfl
theorem ze18 : zeOf Try.prog 18 = some (.agg #[.pointer none]) := by kernel_rfl
theorem ag18 : aggOf Try.prog 18 = some true := by kernel_rfl
theorem con18 : Program.concrete Try.prog 18 = true := by kernel_rfl
theorem egt18 : Try.prog.eqGuardType Try.prog.depth 18 = false := by kernel_rfl
theorem sz19 : szOf Try.prog 19 = some 1 := by kernel_rfl
theorem by19 : byOf Try.prog 19 = some 8 := by kernel_rfl
theorem ze19 : zeOf Try.prog 19 = some (.agg #[.pointer none]) := by kernel_rfl
theorem ag19 : aggOf Try.prog 19 = some true := by kernel_rfl
theorem con19 : Program.concrete Try.prog 19 = true := by kernel_rfl
theorem egt19 : Try.prog.eqGuardType Try.prog.depth 19 = false := by kernel_rfl
theorem sz20 : szOf Try.prog 20 = some 1 := by kernel_rfl
theorem by20 : byOf Try.prog 20 = some 16 := by kernel_rfl
theorem ze20 : zeOf Try.prog 20 = some (.nilIface) := by kernel_rfl
theorem ag20 : aggOf Try.prog 20 = some false := by kernel_rfl
theorem con20 : Program.concrete Try.prog 20 = false := by kernel_rfl
theorem sz21 : szOf Try.prog 21 = some 1 := by kernel_rfl
theorem by21 : byOf Try.prog 21 = some 4 := by kernel_rfl
theorem ze21 : zeOf Try.prog 21 = some (.int .i32 0) := by kernel_rfl
theorem ag21 : aggOf Try.prog 21 = some false := by kernel_rfl
theorem con21 : Program.concrete Try.prog 21 = true := by kernel_rfl
theorem sz22 : szOf Try.prog 22 = some 1 := by kernel_rfl
theorem by22 : byOf Try.prog 22 = some 8 := by kernel_rfl
theorem ze22 : zeOf Try.prog 22 = some (.nilFunc) := by kernel_rfl
theorem ag22 : aggOf Try.prog 22 = some false := by kernel_rfl
theorem con22 : Program.concrete Try.prog 22 = true := by kernel_rfl
theorem sz23 : szOf Try.prog 23 = some 1 := by kernel_rfl
theorem by23 : byOf Try.prog 23 = some 8 := by kernel_rfl
theorem ze23 : zeOf Try.prog 23 = some (.nilFunc) := by kernel_rfl
theorem ag23 : aggOf Try.prog 23 = some false := by kernel_rfl
theorem con23 : Program.concrete Try.prog 23 = true := by kernel_rfl
theorem sz24 : szOf Try.prog 24 = some 1 := by kernel_rfl
theorem by24 : byOf Try.prog 24 = some 8 := by kernel_rfl
theorem ze24 : zeOf Try.prog 24 = some (.nilFunc) := by kernel_rfl
theorem ag24 : aggOf Try.prog 24 = some false := by kernel_rfl
theorem con24 : Program.concrete Try.prog 24 = true := by kernel_rfl
theorem sz25 : szOf Try.prog 25 = some 1 := by kernel_rfl
theorem by25 : byOf Try.prog 25 = some 24 := by kernel_rfl
theorem ze25 : zeOf Try.prog 25 = some (.slice none 0 0) := by kernel_rfl
theorem ag25 : aggOf Try.prog 25 = some false := by kernel_rfl
theorem con25 : Program.concrete Try.prog 25 = true := by kernel_rfl
theorem sz26 : szOf Try.prog 26 = some 1 := by kernel_rfl
theorem by26 : byOf Try.prog 26 = some 8 := by kernel_rfl
theorem ze26 : zeOf Try.prog 26 = some (.nilFunc) := by kernel_rfl
theorem ag26 : aggOf Try.prog 26 = some false := by kernel_rfl
theorem con26 : Program.concrete Try.prog 26 = true := by kernel_rfl
theorem sz27 : szOf Try.prog 27 = some 1 := by kernel_rfl
theorem by27 : byOf Try.prog 27 = some 8 := by kernel_rfl
theorem ze27 : zeOf Try.prog 27 = some (.int .i64 0) := by kernel_rfl
theorem ag27 : aggOf Try.prog 27 = some false := by kernel_rfl
theorem con27 : Program.concrete Try.prog 27 = true := by kernel_rfl
theorem sz29 : szOf Try.prog 29 = some 1 := by kernel_rfl
theorem by29 : byOf Try.prog 29 = some 8 := by kernel_rfl
theorem ze29 : zeOf Try.prog 29 = some (.nilFunc) := by kernel_rfl
theorem ag29 : aggOf Try.prog 29 = some false := by kernel_rfl
theorem con29 : Program.concrete Try.prog 29 = true := by kernel_rfl
theorem sz30 : szOf Try.prog 30 = some 1 := by kernel_rfl
theorem by30 : byOf Try.prog 30 = some 8 := by kernel_rfl
theorem ze30 : zeOf Try.prog 30 = some (.nilFunc) := by kernel_rfl
theorem ag30 : aggOf Try.prog 30 = some false := by kernel_rfl
theorem con30 : Program.concrete Try.prog 30 = true := by kernel_rfl
theorem sz31 : szOf Try.prog 31 = some 1 := by kernel_rfl
theorem by31 : byOf Try.prog 31 = some 8 := by kernel_rfl
theorem ze31 : zeOf Try.prog 31 = some (.nilFunc) := by kernel_rfl
theorem ag31 : aggOf Try.prog 31 = some false := by kernel_rfl
theorem con31 : Program.concrete Try.prog 31 = true := by kernel_rfl
theorem sz32 : szOf Try.prog 32 = some 1 := by kernel_rfl
theorem by32 : byOf Try.prog 32 = some 8 := by kernel_rfl
theorem ze32 : zeOf Try.prog 32 = some (.nilFunc) := by kernel_rfl
theorem ag32 : aggOf Try.prog 32 = some false := by kernel_rfl
theorem con32 : Program.concrete Try.prog 32 = true := by kernel_rfl
theorem sz33 : szOf Try.prog 33 = some 1 := by kernel_rfl
theorem by33 : byOf Try.prog 33 = some 8 := by kernel_rfl
theorem ze33 : zeOf Try.prog 33 = some (.nilFunc) := by kernel_rfl
theorem ag33 : aggOf Try.prog 33 = some false := by kernel_rfl
theorem con33 : Program.concrete Try.prog 33 = true := by kernel_rfl
theorem sz34 : szOf Try.prog 34 = some 1 := by kernel_rfl
theorem by34 : byOf Try.prog 34 = some 8 := by kernel_rfl
theorem ze34 : zeOf Try.prog 34 = some (.nilFunc) := by kernel_rfl
theorem ag34 : aggOf Try.prog 34 = some false := by kernel_rfl
theorem con34 : Program.concrete Try.prog 34 = true := by kernel_rfl
theorem sz35 : szOf Try.prog 35 = some 1 := by kernel_rfl
theorem by35 : byOf Try.prog 35 = some 8 := by kernel_rfl
theorem ze35 : zeOf Try.prog 35 = some (.nilFunc) := by kernel_rfl
theorem ag35 : aggOf Try.prog 35 = some false := by kernel_rfl
theorem con35 : Program.concrete Try.prog 35 = true := by kernel_rfl
theorem sz36 : szOf Try.prog 36 = some 1 := by kernel_rfl
theorem by36 : byOf Try.prog 36 = some 8 := by kernel_rfl
theorem ze36 : zeOf Try.prog 36 = some (.nilFunc) := by kernel_rfl
theorem ag36 : aggOf Try.prog 36 = some false := by kernel_rfl
theorem con36 : Program.concrete Try.prog 36 = true := by kernel_rfl
theorem sz37 : szOf Try.prog 37 = some 1 := by kernel_rfl
theorem by37 : byOf Try.prog 37 = some 8 := by kernel_rfl
theorem ze37 : zeOf Try.prog 37 = some (.nilFunc) := by kernel_rfl
theorem ag37 : aggOf Try.prog 37 = some false := by kernel_rfl
theorem con37 : Program.concrete Try.prog 37 = true := by kernel_rfl
theorem sz38 : szOf Try.prog 38 = some 1 := by kernel_rfl
theorem by38 : byOf Try.prog 38 = some 8 := by kernel_rfl
theorem ze38 : zeOf Try.prog 38 = some (.nilFunc) := by kernel_rfl
theorem ag38 : aggOf Try.prog 38 = some false := by kernel_rfl
theorem con38 : Program.concrete Try.prog 38 = true := by kernel_rfl
theorem sz39 : szOf Try.prog 39 = some 1 := by kernel_rfl
theorem by39 : byOf Try.prog 39 = some 8 := by kernel_rfl
theorem ze39 : zeOf Try.prog 39 = some (.nilFunc) := by kernel_rfl
theorem ag39 : aggOf Try.prog 39 = some false := by kernel_rfl
theorem con39 : Program.concrete Try.prog 39 = true := by kernel_rfl
theorem sz40 : szOf Try.prog 40 = some 1 := by kernel_rfl
theorem by40 : byOf Try.prog 40 = some 8 := by kernel_rfl
theorem ze40 : zeOf Try.prog 40 = some (.nilFunc) := by kernel_rfl
theorem ag40 : aggOf Try.prog 40 = some false := by kernel_rfl
theorem con40 : Program.concrete Try.prog 40 = true := by kernel_rfl
theorem sz41 : szOf Try.prog 41 = some 1 := by kernel_rfl
theorem by41 : byOf Try.prog 41 = some 8 := by kernel_rfl
theorem ze41 : zeOf Try.prog 41 = some (.nilFunc) := by kernel_rfl
theorem ag41 : aggOf Try.prog 41 = some false := by kernel_rfl
theorem con41 : Program.concrete Try.prog 41 = true := by kernel_rfl
theorem sz42 : szOf Try.prog 42 = some 1 := by kernel_rfl
theorem by42 : byOf Try.prog 42 = some 8 := by kernel_rfl
theorem ze42 : zeOf Try.prog 42 = some (.nilFunc) := by kernel_rfl
theorem ag42 : aggOf Try.prog 42 = some false := by kernel_rfl
theorem con42 : Program.concrete Try.prog 42 = true := by kernel_rfl
theorem sz43 : szOf Try.prog 43 = some 1 := by kernel_rfl
theorem by43 : byOf Try.prog 43 = some 8 := by kernel_rfl
theorem ze43 : zeOf Try.prog 43 = some (.int .u64 0) := by kernel_rfl
theorem ag43 : aggOf Try.prog 43 = some false := by kernel_rfl
theorem con43 : Program.concrete Try.prog 43 = true := by kernel_rfl
theorem sz45 : szOf Try.prog 45 = some 1 := by kernel_rfl
theorem by45 : byOf Try.prog 45 = some 8 := by kernel_rfl
theorem ze45 : zeOf Try.prog 45 = some (.nilFunc) := by kernel_rfl
theorem ag45 : aggOf Try.prog 45 = some false := by kernel_rfl
theorem con45 : Program.concrete Try.prog 45 = true := by kernel_rfl
theorem sz46 : szOf Try.prog 46 = some 1 := by kernel_rfl
theorem by46 : byOf Try.prog 46 = some 8 := by kernel_rfl
theorem ze46 : zeOf Try.prog 46 = some (.nilFunc) := by kernel_rfl
theorem ag46 : aggOf Try.prog 46 = some false := by kernel_rfl
theorem con46 : Program.concrete Try.prog 46 = true := by kernel_rfl
theorem sz47 : szOf Try.prog 47 = some 1 := by kernel_rfl
theorem by47 : byOf Try.prog 47 = some 8 := by kernel_rfl
theorem ze47 : zeOf Try.prog 47 = some (.pointer none) := by kernel_rfl
theorem ag47 : aggOf Try.prog 47 = some false := by kernel_rfl
theorem con47 : Program.concrete Try.prog 47 = true := by kernel_rfl
theorem sz48 : szOf Try.prog 48 = some 2 := by kernel_rfl
theorem by48 : byOf Try.prog 48 = some 32 := by kernel_rfl
theorem ze48 : zeOf Try.prog 48 = some (.agg #[.pointer none, .slice none 0 0]) := by kernel_rfl
theorem ag48 : aggOf Try.prog 48 = some true := by kernel_rfl
theorem con48 : Program.concrete Try.prog 48 = true := by kernel_rfl
theorem egt48 : Try.prog.eqGuardType Try.prog.depth 48 = false := by kernel_rfl
theorem sz49 : szOf Try.prog 49 = some 2 := by kernel_rfl
theorem by49 : byOf Try.prog 49 = some 32 := by kernel_rfl
theorem ze49 : zeOf Try.prog 49 = some (.agg #[.pointer none, .slice none 0 0]) := by kernel_rfl
theorem ag49 : aggOf Try.prog 49 = some true := by kernel_rfl
theorem con49 : Program.concrete Try.prog 49 = true := by kernel_rfl
theorem egt49 : Try.prog.eqGuardType Try.prog.depth 49 = false := by kernel_rfl
theorem sz50 : szOf Try.prog 50 = some 1 := by kernel_rfl
theorem by50 : byOf Try.prog 50 = some 8 := by kernel_rfl
theorem ze50 : zeOf Try.prog 50 = some (.nilFunc) := by kernel_rfl
theorem ag50 : aggOf Try.prog 50 = some false := by kernel_rfl
theorem con50 : Program.concrete Try.prog 50 = true := by kernel_rfl
theorem sz51 : szOf Try.prog 51 = some 1 := by kernel_rfl
theorem by51 : byOf Try.prog 51 = some 16 := by kernel_rfl
theorem ze51 : zeOf Try.prog 51 = some (.nilIface) := by kernel_rfl
theorem ag51 : aggOf Try.prog 51 = some false := by kernel_rfl
theorem con51 : Program.concrete Try.prog 51 = false := by kernel_rfl
theorem sz52 : szOf Try.prog 52 = some 1 := by kernel_rfl
theorem by52 : byOf Try.prog 52 = some 16 := by kernel_rfl
theorem ze52 : zeOf Try.prog 52 = some (.nilIface) := by kernel_rfl
theorem ag52 : aggOf Try.prog 52 = some false := by kernel_rfl
theorem con52 : Program.concrete Try.prog 52 = false := by kernel_rfl
theorem sz54 : szOf Try.prog 54 = some 1 := by kernel_rfl
theorem by54 : byOf Try.prog 54 = some 8 := by kernel_rfl
theorem ze54 : zeOf Try.prog 54 = some (.nilFunc) := by kernel_rfl
theorem ag54 : aggOf Try.prog 54 = some false := by kernel_rfl
theorem con54 : Program.concrete Try.prog 54 = true := by kernel_rfl
theorem sz55 : szOf Try.prog 55 = some 1 := by kernel_rfl
theorem by55 : byOf Try.prog 55 = some 8 := by kernel_rfl
theorem ze55 : zeOf Try.prog 55 = some (.nilFunc) := by kernel_rfl
theorem ag55 : aggOf Try.prog 55 = some false := by kernel_rfl
theorem con55 : Program.concrete Try.prog 55 = true := by kernel_rfl
theorem sz56 : szOf Try.prog 56 = some 1 := by kernel_rfl
theorem by56 : byOf Try.prog 56 = some 8 := by kernel_rfl
theorem ze56 : zeOf Try.prog 56 = some (.nilFunc) := by kernel_rfl
theorem ag56 : aggOf Try.prog 56 = some false := by kernel_rfl
theorem con56 : Program.concrete Try.prog 56 = true := by kernel_rfl
theorem sz57 : szOf Try.prog 57 = some 1 := by kernel_rfl
theorem by57 : byOf Try.prog 57 = some 4 := by kernel_rfl
theorem ze57 : zeOf Try.prog 57 = some (.int .u32 0) := by kernel_rfl
theorem ag57 : aggOf Try.prog 57 = some false := by kernel_rfl
theorem con57 : Program.concrete Try.prog 57 = true := by kernel_rfl
theorem sz59 : szOf Try.prog 59 = some 1 := by kernel_rfl
theorem by59 : byOf Try.prog 59 = some 8 := by kernel_rfl
theorem ze59 : zeOf Try.prog 59 = some (.nilFunc) := by kernel_rfl
theorem ag59 : aggOf Try.prog 59 = some false := by kernel_rfl
theorem con59 : Program.concrete Try.prog 59 = true := by kernel_rfl
theorem sz60 : szOf Try.prog 60 = some 1 := by kernel_rfl
theorem by60 : byOf Try.prog 60 = some 8 := by kernel_rfl
theorem ze60 : zeOf Try.prog 60 = some (.int .u64 0) := by kernel_rfl
theorem ag60 : aggOf Try.prog 60 = some false := by kernel_rfl
theorem con60 : Program.concrete Try.prog 60 = true := by kernel_rfl
theorem sz62 : szOf Try.prog 62 = some 1 := by kernel_rfl
theorem by62 : byOf Try.prog 62 = some 8 := by kernel_rfl
theorem ze62 : zeOf Try.prog 62 = some (.nilFunc) := by kernel_rfl
theorem ag62 : aggOf Try.prog 62 = some false := by kernel_rfl
theorem con62 : Program.concrete Try.prog 62 = true := by kernel_rfl
theorem sz63 : szOf Try.prog 63 = some 1 := by kernel_rfl
theorem by63 : byOf Try.prog 63 = some 8 := by kernel_rfl
theorem ze63 : zeOf Try.prog 63 = some (.pointer none) := by kernel_rfl
theorem ag63 : aggOf Try.prog 63 = some false := by kernel_rfl
theorem con63 : Program.concrete Try.prog 63 = true := by kernel_rfl
theorem sz64 : szOf Try.prog 64 = some 1 := by kernel_rfl
theorem by64 : byOf Try.prog 64 = some 8 := by kernel_rfl
theorem ze64 : zeOf Try.prog 64 = some (.pointer none) := by kernel_rfl
theorem ag64 : aggOf Try.prog 64 = some false := by kernel_rfl
theorem con64 : Program.concrete Try.prog 64 = true := by kernel_rfl
theorem sz65 : szOf Try.prog 65 = some 1 := by kernel_rfl
theorem by65 : byOf Try.prog 65 = some 8 := by kernel_rfl
theorem ze65 : zeOf Try.prog 65 = some (.nilFunc) := by kernel_rfl
theorem ag65 : aggOf Try.prog 65 = some false := by kernel_rfl
theorem con65 : Program.concrete Try.prog 65 = true := by kernel_rfl
theorem sz66 : szOf Try.prog 66 = some 1 := by kernel_rfl
theorem by66 : byOf Try.prog 66 = some 8 := by kernel_rfl
theorem ze66 : zeOf Try.prog 66 = some (.nilFunc) := by kernel_rfl
theorem ag66 : aggOf Try.prog 66 = some false := by kernel_rfl
theorem con66 : Program.concrete Try.prog 66 = true := by kernel_rfl
theorem sz67 : szOf Try.prog 67 = some 4 := by kernel_rfl
theorem by67 : byOf Try.prog 67 = some 40 := by kernel_rfl
theorem ze67 : zeOf Try.prog 67 = some (.agg #[.pointer none, .pointer none, .pointer none, .string .empty]) := by kernel_rfl
theorem ag67 : aggOf Try.prog 67 = some true := by kernel_rfl
theorem con67 : Program.concrete Try.prog 67 = true := by kernel_rfl
theorem egt67 : Try.prog.eqGuardType Try.prog.depth 67 = false := by kernel_rfl
theorem sz68 : szOf Try.prog 68 = some 4 := by kernel_rfl
theorem by68 : byOf Try.prog 68 = some 40 := by kernel_rfl
theorem ze68 : zeOf Try.prog 68 = some (.agg #[.pointer none, .pointer none, .pointer none, .string .empty]) := by kernel_rfl
theorem ag68 : aggOf Try.prog 68 = some true := by kernel_rfl
theorem con68 : Program.concrete Try.prog 68 = true := by kernel_rfl
theorem egt68 : Try.prog.eqGuardType Try.prog.depth 68 = false := by kernel_rfl
theorem sz69 : szOf Try.prog 69 = some 0 := by kernel_rfl
theorem by69 : byOf Try.prog 69 = some 0 := by kernel_rfl
theorem ze69 : zeOf Try.prog 69 = some (.agg #[]) := by kernel_rfl
theorem ag69 : aggOf Try.prog 69 = some true := by kernel_rfl
theorem con69 : Program.concrete Try.prog 69 = true := by kernel_rfl
theorem egt69 : Try.prog.eqGuardType Try.prog.depth 69 = false := by kernel_rfl
theorem sz70 : szOf Try.prog 70 = some 0 := by kernel_rfl
theorem by70 : byOf Try.prog 70 = some 0 := by kernel_rfl
theorem ze70 : zeOf Try.prog 70 = some (.agg #[]) := by kernel_rfl
theorem ag70 : aggOf Try.prog 70 = some true := by kernel_rfl
theorem con70 : Program.concrete Try.prog 70 = true := by kernel_rfl
theorem egt70 : Try.prog.eqGuardType Try.prog.depth 70 = false := by kernel_rfl
theorem sz71 : szOf Try.prog 71 = some 0 := by kernel_rfl
theorem by71 : byOf Try.prog 71 = some 0 := by kernel_rfl
theorem ze71 : zeOf Try.prog 71 = some (.agg #[]) := by kernel_rfl
theorem ag71 : aggOf Try.prog 71 = some true := by kernel_rfl
theorem con71 : Program.concrete Try.prog 71 = true := by kernel_rfl
theorem egt71 : Try.prog.eqGuardType Try.prog.depth 71 = false := by kernel_rfl
theorem sz72 : szOf Try.prog 72 = some 1 := by kernel_rfl
theorem by72 : byOf Try.prog 72 = some 1 := by kernel_rfl
theorem ze72 : zeOf Try.prog 72 = some (.int .u8 0) := by kernel_rfl
theorem ag72 : aggOf Try.prog 72 = some false := by kernel_rfl
theorem con72 : Program.concrete Try.prog 72 = true := by kernel_rfl
theorem sz73 : szOf Try.prog 73 = some 1 := by kernel_rfl
theorem by73 : byOf Try.prog 73 = some 1 := by kernel_rfl
theorem ze73 : zeOf Try.prog 73 = some (.int .u8 0) := by kernel_rfl
theorem ag73 : aggOf Try.prog 73 = some false := by kernel_rfl
theorem con73 : Program.concrete Try.prog 73 = true := by kernel_rfl
theorem sz74 : szOf Try.prog 74 = some 1 := by kernel_rfl
theorem by74 : byOf Try.prog 74 = some 8 := by kernel_rfl
theorem ze74 : zeOf Try.prog 74 = some (.nilFunc) := by kernel_rfl
theorem ag74 : aggOf Try.prog 74 = some false := by kernel_rfl
theorem con74 : Program.concrete Try.prog 74 = true := by kernel_rfl
theorem sz75 : szOf Try.prog 75 = some 1 := by kernel_rfl
theorem by75 : byOf Try.prog 75 = some 4 := by kernel_rfl
theorem ze75 : zeOf Try.prog 75 = some (.int .i32 0) := by kernel_rfl
theorem ag75 : aggOf Try.prog 75 = some false := by kernel_rfl
theorem con75 : Program.concrete Try.prog 75 = true := by kernel_rfl
theorem sz76 : szOf Try.prog 76 = some 1 := by kernel_rfl
theorem by76 : byOf Try.prog 76 = some 4 := by kernel_rfl
theorem ze76 : zeOf Try.prog 76 = some (.int .i32 0) := by kernel_rfl
theorem ag76 : aggOf Try.prog 76 = some false := by kernel_rfl
theorem con76 : Program.concrete Try.prog 76 = true := by kernel_rfl
theorem sz77 : szOf Try.prog 77 = some 11 := by kernel_rfl
theorem by77 : byOf Try.prog 77 = some 48 := by kernel_rfl
theorem ze77 : zeOf Try.prog 77 = some (.agg #[.int .u64 0, .int .u64 0, .int .u32 0, .int .u8 0, .int .u8 0, .int .u8 0, .int .u8 0, .nilFunc, .pointer none, .int .i32 0, .int .i32 0]) := by kernel_rfl
theorem ag77 : aggOf Try.prog 77 = some true := by kernel_rfl
theorem con77 : Program.concrete Try.prog 77 = true := by kernel_rfl
theorem egt77 : Try.prog.eqGuardType Try.prog.depth 77 = false := by kernel_rfl
theorem sz78 : szOf Try.prog 78 = some 11 := by kernel_rfl
theorem by78 : byOf Try.prog 78 = some 48 := by kernel_rfl
theorem ze78 : zeOf Try.prog 78 = some (.agg #[.int .u64 0, .int .u64 0, .int .u32 0, .int .u8 0, .int .u8 0, .int .u8 0, .int .u8 0, .nilFunc, .pointer none, .int .i32 0, .int .i32 0]) := by kernel_rfl
theorem ag78 : aggOf Try.prog 78 = some true := by kernel_rfl
theorem con78 : Program.concrete Try.prog 78 = true := by kernel_rfl
theorem egt78 : Try.prog.eqGuardType Try.prog.depth 78 = false := by kernel_rfl
theorem mixed : Try.prog.follows .mixedOrders = true := by kernel_rfl
end Go.Proofs.Ytmnlmfiokbnhhaa
