/- Closed facts on the types of this translation, by program. -/
import Derived.Test.YtehakfbfjpolfaaVD
import Derived.Test.YtehakfbfjpolfaaProg
set_option maxRecDepth 100000
set_option linter.all false
namespace Go.Proofs.Ytehakfbfjpolfaa
open Go Vw
theorem ag7 : AgT Try.prog 7 4 := ⟨fun w => Try.isAgg7 w, fun w => Try.sizeOf7 w⟩
theorem ag8 : AgT Try.prog 8 4 := ⟨fun w => Try.isAgg8 w, fun w => Try.sizeOf8 w⟩
theorem ag13 : AgT Try.prog 13 2 := ⟨fun w => Try.isAgg13 w, fun w => Try.sizeOf13 w⟩
theorem ag14 : AgT Try.prog 14 2 := ⟨fun w => Try.isAgg14 w, fun w => Try.sizeOf14 w⟩
theorem ag18 : AgT Try.prog 18 1 := ⟨fun w => Try.isAgg18 w, fun w => Try.sizeOf18 w⟩
theorem ag19 : AgT Try.prog 19 1 := ⟨fun w => Try.isAgg19 w, fun w => Try.sizeOf19 w⟩
theorem ag45 : AgT Try.prog 45 2 := ⟨fun w => Try.isAgg45 w, fun w => Try.sizeOf45 w⟩
theorem ag46 : AgT Try.prog 46 2 := ⟨fun w => Try.isAgg46 w, fun w => Try.sizeOf46 w⟩
theorem ag50 : AgT Try.prog 50 3 := ⟨fun w => Try.isAgg50 w, fun w => Try.sizeOf50 w⟩
theorem ag51 : AgT Try.prog 51 3 := ⟨fun w => Try.isAgg51 w, fun w => Try.sizeOf51 w⟩
theorem ag56 : AgT Try.prog 56 2 := ⟨fun w => Try.isAgg56 w, fun w => Try.sizeOf56 w⟩
theorem ag57 : AgT Try.prog 57 2 := ⟨fun w => Try.isAgg57 w, fun w => Try.sizeOf57 w⟩
theorem ag62 : AgT Try.prog 62 4 := ⟨fun w => Try.isAgg62 w, fun w => Try.sizeOf62 w⟩
theorem ag63 : AgT Try.prog 63 4 := ⟨fun w => Try.isAgg63 w, fun w => Try.sizeOf63 w⟩
theorem ag75 : AgT Try.prog 75 11 := ⟨fun w => Try.isAgg75 w, fun w => Try.sizeOf75 w⟩
theorem ag76 : AgT Try.prog 76 11 := ⟨fun w => Try.isAgg76 w, fun w => Try.sizeOf76 w⟩
theorem fo7_0 : FoT Try.prog 7 0 0 := ⟨_, _, 0, Try.underlying7, rfl, rfl, fun w => Try.sizeOf2 w⟩
theorem fo7_1 : FoT Try.prog 7 1 1 := ⟨_, _, 0, Try.underlying7, rfl, rfl, fun w => Try.sizeOf3 w⟩
theorem fo7_2 : FoT Try.prog 7 2 2 := ⟨_, _, 0, Try.underlying7, rfl, rfl, fun w => Try.sizeOf4 w⟩
theorem fo7_3 : FoT Try.prog 7 3 3 := ⟨_, _, 0, Try.underlying7, rfl, rfl, fun w => Try.sizeOf6 w⟩
theorem fo8_0 : FoT Try.prog 8 0 0 := ⟨_, _, 0, Try.underlying8, rfl, rfl, fun w => Try.sizeOf2 w⟩
theorem fo8_1 : FoT Try.prog 8 1 1 := ⟨_, _, 0, Try.underlying8, rfl, rfl, fun w => Try.sizeOf3 w⟩
theorem fo8_2 : FoT Try.prog 8 2 2 := ⟨_, _, 0, Try.underlying8, rfl, rfl, fun w => Try.sizeOf4 w⟩
theorem fo8_3 : FoT Try.prog 8 3 3 := ⟨_, _, 0, Try.underlying8, rfl, rfl, fun w => Try.sizeOf6 w⟩
theorem fo13_0 : FoT Try.prog 13 0 0 := ⟨_, _, 0, Try.underlying13, rfl, rfl, fun w => Try.sizeOf9 w⟩
theorem fo13_1 : FoT Try.prog 13 1 1 := ⟨_, _, 0, Try.underlying13, rfl, rfl, fun w => Try.sizeOf12 w⟩
theorem fo14_0 : FoT Try.prog 14 0 0 := ⟨_, _, 0, Try.underlying14, rfl, rfl, fun w => Try.sizeOf9 w⟩
theorem fo14_1 : FoT Try.prog 14 1 1 := ⟨_, _, 0, Try.underlying14, rfl, rfl, fun w => Try.sizeOf12 w⟩
theorem fo18_0 : FoT Try.prog 18 0 0 := ⟨_, _, 0, Try.underlying18, rfl, rfl, fun w => Try.sizeOf17 w⟩
theorem fo19_0 : FoT Try.prog 19 0 0 := ⟨_, _, 0, Try.underlying19, rfl, rfl, fun w => Try.sizeOf17 w⟩
theorem fo45_0 : FoT Try.prog 45 0 0 := ⟨_, _, 0, Try.underlying45, rfl, rfl, fun w => Try.sizeOf3 w⟩
theorem fo45_1 : FoT Try.prog 45 1 1 := ⟨_, _, 0, Try.underlying45, rfl, rfl, fun w => Try.sizeOf22 w⟩
theorem fo46_0 : FoT Try.prog 46 0 0 := ⟨_, _, 0, Try.underlying46, rfl, rfl, fun w => Try.sizeOf3 w⟩
theorem fo46_1 : FoT Try.prog 46 1 1 := ⟨_, _, 0, Try.underlying46, rfl, rfl, fun w => Try.sizeOf22 w⟩
theorem fo50_0 : FoT Try.prog 50 0 0 := ⟨_, _, 0, Try.underlying50, rfl, rfl, fun w => Try.sizeOf3 w⟩
theorem fo50_1 : FoT Try.prog 50 1 1 := ⟨_, _, 0, Try.underlying50, rfl, rfl, fun w => Try.sizeOf3 w⟩
theorem fo50_2 : FoT Try.prog 50 2 2 := ⟨_, _, 0, Try.underlying50, rfl, rfl, fun w => Try.sizeOf3 w⟩
theorem fo51_0 : FoT Try.prog 51 0 0 := ⟨_, _, 0, Try.underlying51, rfl, rfl, fun w => Try.sizeOf3 w⟩
theorem fo51_1 : FoT Try.prog 51 1 1 := ⟨_, _, 0, Try.underlying51, rfl, rfl, fun w => Try.sizeOf3 w⟩
theorem fo51_2 : FoT Try.prog 51 2 2 := ⟨_, _, 0, Try.underlying51, rfl, rfl, fun w => Try.sizeOf3 w⟩
theorem fo56_0 : FoT Try.prog 56 0 0 := ⟨_, _, 0, Try.underlying56, rfl, rfl, fun w => Try.sizeOf3 w⟩
theorem fo56_1 : FoT Try.prog 56 1 1 := ⟨_, _, 0, Try.underlying56, rfl, rfl, fun w => Try.sizeOf3 w⟩
theorem fo57_0 : FoT Try.prog 57 0 0 := ⟨_, _, 0, Try.underlying57, rfl, rfl, fun w => Try.sizeOf3 w⟩
theorem fo57_1 : FoT Try.prog 57 1 1 := ⟨_, _, 0, Try.underlying57, rfl, rfl, fun w => Try.sizeOf3 w⟩
theorem fo62_0 : FoT Try.prog 62 0 0 := ⟨_, _, 0, Try.underlying62, rfl, rfl, fun w => Try.sizeOf17 w⟩
theorem fo62_1 : FoT Try.prog 62 1 1 := ⟨_, _, 0, Try.underlying62, rfl, rfl, fun w => Try.sizeOf17 w⟩
theorem fo62_2 : FoT Try.prog 62 2 2 := ⟨_, _, 0, Try.underlying62, rfl, rfl, fun w => Try.sizeOf17 w⟩
theorem fo62_3 : FoT Try.prog 62 3 3 := ⟨_, _, 0, Try.underlying62, rfl, rfl, fun w => Try.sizeOf9 w⟩
theorem fo63_0 : FoT Try.prog 63 0 0 := ⟨_, _, 0, Try.underlying63, rfl, rfl, fun w => Try.sizeOf17 w⟩
theorem fo63_1 : FoT Try.prog 63 1 1 := ⟨_, _, 0, Try.underlying63, rfl, rfl, fun w => Try.sizeOf17 w⟩
theorem fo63_2 : FoT Try.prog 63 2 2 := ⟨_, _, 0, Try.underlying63, rfl, rfl, fun w => Try.sizeOf17 w⟩
theorem fo63_3 : FoT Try.prog 63 3 3 := ⟨_, _, 0, Try.underlying63, rfl, rfl, fun w => Try.sizeOf9 w⟩
theorem fo75_0 : FoT Try.prog 75 0 0 := ⟨_, _, 0, Try.underlying75, rfl, rfl, fun w => Try.sizeOf12 w⟩
theorem fo75_1 : FoT Try.prog 75 1 1 := ⟨_, _, 0, Try.underlying75, rfl, rfl, fun w => Try.sizeOf12 w⟩
theorem fo75_2 : FoT Try.prog 75 2 2 := ⟨_, _, 0, Try.underlying75, rfl, rfl, fun w => Try.sizeOf68 w⟩
theorem fo75_3 : FoT Try.prog 75 3 3 := ⟨_, _, 0, Try.underlying75, rfl, rfl, fun w => Try.sizeOf69 w⟩
theorem fo75_4 : FoT Try.prog 75 4 4 := ⟨_, _, 0, Try.underlying75, rfl, rfl, fun w => Try.sizeOf5 w⟩
theorem fo75_5 : FoT Try.prog 75 5 5 := ⟨_, _, 0, Try.underlying75, rfl, rfl, fun w => Try.sizeOf5 w⟩
theorem fo75_6 : FoT Try.prog 75 6 6 := ⟨_, _, 0, Try.underlying75, rfl, rfl, fun w => Try.sizeOf70 w⟩
theorem fo75_7 : FoT Try.prog 75 7 7 := ⟨_, _, 0, Try.underlying75, rfl, rfl, fun w => Try.sizeOf71 w⟩
theorem fo75_8 : FoT Try.prog 75 8 8 := ⟨_, _, 0, Try.underlying75, rfl, rfl, fun w => Try.sizeOf72 w⟩
theorem fo75_9 : FoT Try.prog 75 9 9 := ⟨_, _, 0, Try.underlying75, rfl, rfl, fun w => Try.sizeOf73 w⟩
theorem fo75_10 : FoT Try.prog 75 10 10 := ⟨_, _, 0, Try.underlying75, rfl, rfl, fun w => Try.sizeOf74 w⟩
theorem fo76_0 : FoT Try.prog 76 0 0 := ⟨_, _, 0, Try.underlying76, rfl, rfl, fun w => Try.sizeOf12 w⟩
theorem fo76_1 : FoT Try.prog 76 1 1 := ⟨_, _, 0, Try.underlying76, rfl, rfl, fun w => Try.sizeOf12 w⟩
theorem fo76_2 : FoT Try.prog 76 2 2 := ⟨_, _, 0, Try.underlying76, rfl, rfl, fun w => Try.sizeOf68 w⟩
theorem fo76_3 : FoT Try.prog 76 3 3 := ⟨_, _, 0, Try.underlying76, rfl, rfl, fun w => Try.sizeOf69 w⟩
theorem fo76_4 : FoT Try.prog 76 4 4 := ⟨_, _, 0, Try.underlying76, rfl, rfl, fun w => Try.sizeOf5 w⟩
theorem fo76_5 : FoT Try.prog 76 5 5 := ⟨_, _, 0, Try.underlying76, rfl, rfl, fun w => Try.sizeOf5 w⟩
theorem fo76_6 : FoT Try.prog 76 6 6 := ⟨_, _, 0, Try.underlying76, rfl, rfl, fun w => Try.sizeOf70 w⟩
theorem fo76_7 : FoT Try.prog 76 7 7 := ⟨_, _, 0, Try.underlying76, rfl, rfl, fun w => Try.sizeOf71 w⟩
theorem fo76_8 : FoT Try.prog 76 8 8 := ⟨_, _, 0, Try.underlying76, rfl, rfl, fun w => Try.sizeOf72 w⟩
theorem fo76_9 : FoT Try.prog 76 9 9 := ⟨_, _, 0, Try.underlying76, rfl, rfl, fun w => Try.sizeOf73 w⟩
theorem fo76_10 : FoT Try.prog 76 10 10 := ⟨_, _, 0, Try.underlying76, rfl, rfl, fun w => Try.sizeOf74 w⟩
theorem sc1 : ScT Try.prog 1 := ⟨fun w => Try.isAgg1 w, fun w => Try.sizeOf1 w⟩
theorem sc2 : ScT Try.prog 2 := ⟨fun w => Try.isAgg2 w, fun w => Try.sizeOf2 w⟩
theorem sc3 : ScT Try.prog 3 := ⟨fun w => Try.isAgg3 w, fun w => Try.sizeOf3 w⟩
theorem sc4 : ScT Try.prog 4 := ⟨fun w => Try.isAgg4 w, fun w => Try.sizeOf4 w⟩
theorem sc5 : ScT Try.prog 5 := ⟨fun w => Try.isAgg5 w, fun w => Try.sizeOf5 w⟩
theorem sc6 : ScT Try.prog 6 := ⟨fun w => Try.isAgg6 w, fun w => Try.sizeOf6 w⟩
theorem sc9 : ScT Try.prog 9 := ⟨fun w => Try.isAgg9 w, fun w => Try.sizeOf9 w⟩
theorem sc10 : ScT Try.prog 10 := ⟨fun w => Try.isAgg10 w, fun w => Try.sizeOf10 w⟩
theorem sc11 : ScT Try.prog 11 := ⟨fun w => Try.isAgg11 w, fun w => Try.sizeOf11 w⟩
theorem sc12 : ScT Try.prog 12 := ⟨fun w => Try.isAgg12 w, fun w => Try.sizeOf12 w⟩
theorem sc15 : ScT Try.prog 15 := ⟨fun w => Try.isAgg15 w, fun w => Try.sizeOf15 w⟩
theorem sc16 : ScT Try.prog 16 := ⟨fun w => Try.isAgg16 w, fun w => Try.sizeOf16 w⟩
theorem sc17 : ScT Try.prog 17 := ⟨fun w => Try.isAgg17 w, fun w => Try.sizeOf17 w⟩
theorem sc20 : ScT Try.prog 20 := ⟨fun w => Try.isAgg20 w, fun w => Try.sizeOf20 w⟩
theorem sc21 : ScT Try.prog 21 := ⟨fun w => Try.isAgg21 w, fun w => Try.sizeOf21 w⟩
theorem sc22 : ScT Try.prog 22 := ⟨fun w => Try.isAgg22 w, fun w => Try.sizeOf22 w⟩
theorem sc23 : ScT Try.prog 23 := ⟨fun w => Try.isAgg23 w, fun w => Try.sizeOf23 w⟩
theorem sc24 : ScT Try.prog 24 := ⟨fun w => Try.isAgg24 w, fun w => Try.sizeOf24 w⟩
theorem sc25 : ScT Try.prog 25 := ⟨fun w => Try.isAgg25 w, fun w => Try.sizeOf25 w⟩
theorem sc27 : ScT Try.prog 27 := ⟨fun w => Try.isAgg27 w, fun w => Try.sizeOf27 w⟩
theorem sc28 : ScT Try.prog 28 := ⟨fun w => Try.isAgg28 w, fun w => Try.sizeOf28 w⟩
theorem sc30 : ScT Try.prog 30 := ⟨fun w => Try.isAgg30 w, fun w => Try.sizeOf30 w⟩
theorem sc32 : ScT Try.prog 32 := ⟨fun w => Try.isAgg32 w, fun w => Try.sizeOf32 w⟩
theorem sc33 : ScT Try.prog 33 := ⟨fun w => Try.isAgg33 w, fun w => Try.sizeOf33 w⟩
theorem sc34 : ScT Try.prog 34 := ⟨fun w => Try.isAgg34 w, fun w => Try.sizeOf34 w⟩
theorem sc35 : ScT Try.prog 35 := ⟨fun w => Try.isAgg35 w, fun w => Try.sizeOf35 w⟩
theorem sc36 : ScT Try.prog 36 := ⟨fun w => Try.isAgg36 w, fun w => Try.sizeOf36 w⟩
theorem sc37 : ScT Try.prog 37 := ⟨fun w => Try.isAgg37 w, fun w => Try.sizeOf37 w⟩
theorem sc38 : ScT Try.prog 38 := ⟨fun w => Try.isAgg38 w, fun w => Try.sizeOf38 w⟩
theorem sc40 : ScT Try.prog 40 := ⟨fun w => Try.isAgg40 w, fun w => Try.sizeOf40 w⟩
theorem sc42 : ScT Try.prog 42 := ⟨fun w => Try.isAgg42 w, fun w => Try.sizeOf42 w⟩
theorem sc43 : ScT Try.prog 43 := ⟨fun w => Try.isAgg43 w, fun w => Try.sizeOf43 w⟩
theorem sc44 : ScT Try.prog 44 := ⟨fun w => Try.isAgg44 w, fun w => Try.sizeOf44 w⟩
theorem sc47 : ScT Try.prog 47 := ⟨fun w => Try.isAgg47 w, fun w => Try.sizeOf47 w⟩
theorem sc48 : ScT Try.prog 48 := ⟨fun w => Try.isAgg48 w, fun w => Try.sizeOf48 w⟩
theorem sc49 : ScT Try.prog 49 := ⟨fun w => Try.isAgg49 w, fun w => Try.sizeOf49 w⟩
theorem sc52 : ScT Try.prog 52 := ⟨fun w => Try.isAgg52 w, fun w => Try.sizeOf52 w⟩
theorem sc53 : ScT Try.prog 53 := ⟨fun w => Try.isAgg53 w, fun w => Try.sizeOf53 w⟩
theorem sc54 : ScT Try.prog 54 := ⟨fun w => Try.isAgg54 w, fun w => Try.sizeOf54 w⟩
theorem sc55 : ScT Try.prog 55 := ⟨fun w => Try.isAgg55 w, fun w => Try.sizeOf55 w⟩
theorem sc58 : ScT Try.prog 58 := ⟨fun w => Try.isAgg58 w, fun w => Try.sizeOf58 w⟩
theorem sc59 : ScT Try.prog 59 := ⟨fun w => Try.isAgg59 w, fun w => Try.sizeOf59 w⟩
theorem sc60 : ScT Try.prog 60 := ⟨fun w => Try.isAgg60 w, fun w => Try.sizeOf60 w⟩
theorem sc61 : ScT Try.prog 61 := ⟨fun w => Try.isAgg61 w, fun w => Try.sizeOf61 w⟩
theorem sc67 : ScT Try.prog 67 := ⟨fun w => Try.isAgg67 w, fun w => Try.sizeOf67 w⟩
theorem sc68 : ScT Try.prog 68 := ⟨fun w => Try.isAgg68 w, fun w => Try.sizeOf68 w⟩
theorem sc69 : ScT Try.prog 69 := ⟨fun w => Try.isAgg69 w, fun w => Try.sizeOf69 w⟩
theorem sc70 : ScT Try.prog 70 := ⟨fun w => Try.isAgg70 w, fun w => Try.sizeOf70 w⟩
theorem sc71 : ScT Try.prog 71 := ⟨fun w => Try.isAgg71 w, fun w => Try.sizeOf71 w⟩
theorem sc72 : ScT Try.prog 72 := ⟨fun w => Try.isAgg72 w, fun w => Try.sizeOf72 w⟩
theorem sc73 : ScT Try.prog 73 := ⟨fun w => Try.isAgg73 w, fun w => Try.sizeOf73 w⟩
theorem sc74 : ScT Try.prog 74 := ⟨fun w => Try.isAgg74 w, fun w => Try.sizeOf74 w⟩
theorem sl22 : SlT Try.prog 22 5 1 1 (.int .u8 0) := ⟨Try.underlying22, by decide, rfl, Try.t5, by kernel_rfl, rfl, rfl, rfl⟩
theorem sl23 : SlT Try.prog 23 46 2 32 (.agg #[.int .i64 0, .slice none 0 0]) := ⟨Try.underlying23, by decide, rfl, Try.t46, by kernel_rfl, rfl, rfl, rfl⟩
theorem sl25 : SlT Try.prog 25 22 1 24 (.slice none 0 0) := ⟨Try.underlying25, by decide, rfl, Try.t22, by kernel_rfl, rfl, rfl, rfl⟩
theorem sl54 : SlT Try.prog 54 57 2 16 (.agg #[.int .i64 0, .int .i64 0]) := ⟨Try.underlying54, by decide, rfl, Try.t57, by kernel_rfl, rfl, rfl, rfl⟩
end Go.Proofs.Ytehakfbfjpolfaa
