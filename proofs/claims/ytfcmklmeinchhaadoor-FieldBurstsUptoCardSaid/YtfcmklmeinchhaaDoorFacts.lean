/- Closed facts on the types of this translation, by program. -/
import Derived.Test.YtfcmklmeinchhaaDoorVD
import Derived.Test.YtfcmklmeinchhaaDoorProg
set_option maxRecDepth 100000
set_option linter.all false
namespace Go.Proofs.YtfcmklmeinchhaaDoor
open Go Vw
theorem ag7 : AgT Tryd.prog 7 4 := ⟨fun w => Tryd.isAgg7 w, fun w => Tryd.sizeOf7 w⟩
theorem ag8 : AgT Tryd.prog 8 4 := ⟨fun w => Tryd.isAgg8 w, fun w => Tryd.sizeOf8 w⟩
theorem ag13 : AgT Tryd.prog 13 2 := ⟨fun w => Tryd.isAgg13 w, fun w => Tryd.sizeOf13 w⟩
theorem ag14 : AgT Tryd.prog 14 2 := ⟨fun w => Tryd.isAgg14 w, fun w => Tryd.sizeOf14 w⟩
theorem ag18 : AgT Tryd.prog 18 1 := ⟨fun w => Tryd.isAgg18 w, fun w => Tryd.sizeOf18 w⟩
theorem ag19 : AgT Tryd.prog 19 1 := ⟨fun w => Tryd.isAgg19 w, fun w => Tryd.sizeOf19 w⟩
theorem ag43 : AgT Tryd.prog 43 16 := ⟨fun w => Tryd.isAgg43 w, fun w => Tryd.sizeOf43 w⟩
theorem ag52 : AgT Tryd.prog 52 1 := ⟨fun w => Tryd.isAgg52 w, fun w => Tryd.sizeOf52 w⟩
theorem ag53 : AgT Tryd.prog 53 1 := ⟨fun w => Tryd.isAgg53 w, fun w => Tryd.sizeOf53 w⟩
theorem ag54 : AgT Tryd.prog 54 2 := ⟨fun w => Tryd.isAgg54 w, fun w => Tryd.sizeOf54 w⟩
theorem ag55 : AgT Tryd.prog 55 2 := ⟨fun w => Tryd.isAgg55 w, fun w => Tryd.sizeOf55 w⟩
theorem ag57 : AgT Tryd.prog 57 32 := ⟨fun w => Tryd.isAgg57 w, fun w => Tryd.sizeOf57 w⟩
theorem ag58 : AgT Tryd.prog 58 32 := ⟨fun w => Tryd.isAgg58 w, fun w => Tryd.sizeOf58 w⟩
theorem ag82 : AgT Tryd.prog 82 4 := ⟨fun w => Tryd.isAgg82 w, fun w => Tryd.sizeOf82 w⟩
theorem ag83 : AgT Tryd.prog 83 4 := ⟨fun w => Tryd.isAgg83 w, fun w => Tryd.sizeOf83 w⟩
theorem ag94 : AgT Tryd.prog 94 11 := ⟨fun w => Tryd.isAgg94 w, fun w => Tryd.sizeOf94 w⟩
theorem ag95 : AgT Tryd.prog 95 11 := ⟨fun w => Tryd.isAgg95 w, fun w => Tryd.sizeOf95 w⟩
theorem fo7_0 : FoT Tryd.prog 7 0 0 := ⟨_, _, 0, Tryd.underlying7, rfl, rfl, fun w => Tryd.sizeOf2 w⟩
theorem fo7_1 : FoT Tryd.prog 7 1 1 := ⟨_, _, 0, Tryd.underlying7, rfl, rfl, fun w => Tryd.sizeOf3 w⟩
theorem fo7_2 : FoT Tryd.prog 7 2 2 := ⟨_, _, 0, Tryd.underlying7, rfl, rfl, fun w => Tryd.sizeOf4 w⟩
theorem fo7_3 : FoT Tryd.prog 7 3 3 := ⟨_, _, 0, Tryd.underlying7, rfl, rfl, fun w => Tryd.sizeOf6 w⟩
theorem fo8_0 : FoT Tryd.prog 8 0 0 := ⟨_, _, 0, Tryd.underlying8, rfl, rfl, fun w => Tryd.sizeOf2 w⟩
theorem fo8_1 : FoT Tryd.prog 8 1 1 := ⟨_, _, 0, Tryd.underlying8, rfl, rfl, fun w => Tryd.sizeOf3 w⟩
theorem fo8_2 : FoT Tryd.prog 8 2 2 := ⟨_, _, 0, Tryd.underlying8, rfl, rfl, fun w => Tryd.sizeOf4 w⟩
theorem fo8_3 : FoT Tryd.prog 8 3 3 := ⟨_, _, 0, Tryd.underlying8, rfl, rfl, fun w => Tryd.sizeOf6 w⟩
theorem fo13_0 : FoT Tryd.prog 13 0 0 := ⟨_, _, 0, Tryd.underlying13, rfl, rfl, fun w => Tryd.sizeOf9 w⟩
theorem fo13_1 : FoT Tryd.prog 13 1 1 := ⟨_, _, 0, Tryd.underlying13, rfl, rfl, fun w => Tryd.sizeOf12 w⟩
theorem fo14_0 : FoT Tryd.prog 14 0 0 := ⟨_, _, 0, Tryd.underlying14, rfl, rfl, fun w => Tryd.sizeOf9 w⟩
theorem fo14_1 : FoT Tryd.prog 14 1 1 := ⟨_, _, 0, Tryd.underlying14, rfl, rfl, fun w => Tryd.sizeOf12 w⟩
theorem fo18_0 : FoT Tryd.prog 18 0 0 := ⟨_, _, 0, Tryd.underlying18, rfl, rfl, fun w => Tryd.sizeOf17 w⟩
theorem fo19_0 : FoT Tryd.prog 19 0 0 := ⟨_, _, 0, Tryd.underlying19, rfl, rfl, fun w => Tryd.sizeOf17 w⟩
theorem fo52_2 : FoT Tryd.prog 52 2 0 := ⟨_, _, 0, Tryd.underlying52, rfl, rfl, fun w => Tryd.sizeOf51 w⟩
theorem fo53_2 : FoT Tryd.prog 53 2 0 := ⟨_, _, 0, Tryd.underlying53, rfl, rfl, fun w => Tryd.sizeOf51 w⟩
theorem fo54_1 : FoT Tryd.prog 54 1 0 := ⟨_, _, 0, Tryd.underlying54, rfl, rfl, fun w => Tryd.sizeOf53 w⟩
theorem fo54_2 : FoT Tryd.prog 54 2 1 := ⟨_, _, 0, Tryd.underlying54, rfl, rfl, fun w => Tryd.sizeOf22 w⟩
theorem fo55_1 : FoT Tryd.prog 55 1 0 := ⟨_, _, 0, Tryd.underlying55, rfl, rfl, fun w => Tryd.sizeOf53 w⟩
theorem fo55_2 : FoT Tryd.prog 55 2 1 := ⟨_, _, 0, Tryd.underlying55, rfl, rfl, fun w => Tryd.sizeOf22 w⟩
theorem fo82_0 : FoT Tryd.prog 82 0 0 := ⟨_, _, 0, Tryd.underlying82, rfl, rfl, fun w => Tryd.sizeOf17 w⟩
theorem fo82_1 : FoT Tryd.prog 82 1 1 := ⟨_, _, 0, Tryd.underlying82, rfl, rfl, fun w => Tryd.sizeOf17 w⟩
theorem fo82_2 : FoT Tryd.prog 82 2 2 := ⟨_, _, 0, Tryd.underlying82, rfl, rfl, fun w => Tryd.sizeOf17 w⟩
theorem fo82_3 : FoT Tryd.prog 82 3 3 := ⟨_, _, 0, Tryd.underlying82, rfl, rfl, fun w => Tryd.sizeOf9 w⟩
theorem fo83_0 : FoT Tryd.prog 83 0 0 := ⟨_, _, 0, Tryd.underlying83, rfl, rfl, fun w => Tryd.sizeOf17 w⟩
theorem fo83_1 : FoT Tryd.prog 83 1 1 := ⟨_, _, 0, Tryd.underlying83, rfl, rfl, fun w => Tryd.sizeOf17 w⟩
theorem fo83_2 : FoT Tryd.prog 83 2 2 := ⟨_, _, 0, Tryd.underlying83, rfl, rfl, fun w => Tryd.sizeOf17 w⟩
theorem fo83_3 : FoT Tryd.prog 83 3 3 := ⟨_, _, 0, Tryd.underlying83, rfl, rfl, fun w => Tryd.sizeOf9 w⟩
theorem fo94_0 : FoT Tryd.prog 94 0 0 := ⟨_, _, 0, Tryd.underlying94, rfl, rfl, fun w => Tryd.sizeOf12 w⟩
theorem fo94_1 : FoT Tryd.prog 94 1 1 := ⟨_, _, 0, Tryd.underlying94, rfl, rfl, fun w => Tryd.sizeOf12 w⟩
theorem fo94_2 : FoT Tryd.prog 94 2 2 := ⟨_, _, 0, Tryd.underlying94, rfl, rfl, fun w => Tryd.sizeOf22 w⟩
theorem fo94_3 : FoT Tryd.prog 94 3 3 := ⟨_, _, 0, Tryd.underlying94, rfl, rfl, fun w => Tryd.sizeOf88 w⟩
theorem fo94_4 : FoT Tryd.prog 94 4 4 := ⟨_, _, 0, Tryd.underlying94, rfl, rfl, fun w => Tryd.sizeOf5 w⟩
theorem fo94_5 : FoT Tryd.prog 94 5 5 := ⟨_, _, 0, Tryd.underlying94, rfl, rfl, fun w => Tryd.sizeOf5 w⟩
theorem fo94_6 : FoT Tryd.prog 94 6 6 := ⟨_, _, 0, Tryd.underlying94, rfl, rfl, fun w => Tryd.sizeOf89 w⟩
theorem fo94_7 : FoT Tryd.prog 94 7 7 := ⟨_, _, 0, Tryd.underlying94, rfl, rfl, fun w => Tryd.sizeOf90 w⟩
theorem fo94_8 : FoT Tryd.prog 94 8 8 := ⟨_, _, 0, Tryd.underlying94, rfl, rfl, fun w => Tryd.sizeOf91 w⟩
theorem fo94_9 : FoT Tryd.prog 94 9 9 := ⟨_, _, 0, Tryd.underlying94, rfl, rfl, fun w => Tryd.sizeOf92 w⟩
theorem fo94_10 : FoT Tryd.prog 94 10 10 := ⟨_, _, 0, Tryd.underlying94, rfl, rfl, fun w => Tryd.sizeOf93 w⟩
theorem fo95_0 : FoT Tryd.prog 95 0 0 := ⟨_, _, 0, Tryd.underlying95, rfl, rfl, fun w => Tryd.sizeOf12 w⟩
theorem fo95_1 : FoT Tryd.prog 95 1 1 := ⟨_, _, 0, Tryd.underlying95, rfl, rfl, fun w => Tryd.sizeOf12 w⟩
theorem fo95_2 : FoT Tryd.prog 95 2 2 := ⟨_, _, 0, Tryd.underlying95, rfl, rfl, fun w => Tryd.sizeOf22 w⟩
theorem fo95_3 : FoT Tryd.prog 95 3 3 := ⟨_, _, 0, Tryd.underlying95, rfl, rfl, fun w => Tryd.sizeOf88 w⟩
theorem fo95_4 : FoT Tryd.prog 95 4 4 := ⟨_, _, 0, Tryd.underlying95, rfl, rfl, fun w => Tryd.sizeOf5 w⟩
theorem fo95_5 : FoT Tryd.prog 95 5 5 := ⟨_, _, 0, Tryd.underlying95, rfl, rfl, fun w => Tryd.sizeOf5 w⟩
theorem fo95_6 : FoT Tryd.prog 95 6 6 := ⟨_, _, 0, Tryd.underlying95, rfl, rfl, fun w => Tryd.sizeOf89 w⟩
theorem fo95_7 : FoT Tryd.prog 95 7 7 := ⟨_, _, 0, Tryd.underlying95, rfl, rfl, fun w => Tryd.sizeOf90 w⟩
theorem fo95_8 : FoT Tryd.prog 95 8 8 := ⟨_, _, 0, Tryd.underlying95, rfl, rfl, fun w => Tryd.sizeOf91 w⟩
theorem fo95_9 : FoT Tryd.prog 95 9 9 := ⟨_, _, 0, Tryd.underlying95, rfl, rfl, fun w => Tryd.sizeOf92 w⟩
theorem fo95_10 : FoT Tryd.prog 95 10 10 := ⟨_, _, 0, Tryd.underlying95, rfl, rfl, fun w => Tryd.sizeOf93 w⟩
theorem sc1 : ScT Tryd.prog 1 := ⟨fun w => Tryd.isAgg1 w, fun w => Tryd.sizeOf1 w⟩
theorem sc2 : ScT Tryd.prog 2 := ⟨fun w => Tryd.isAgg2 w, fun w => Tryd.sizeOf2 w⟩
theorem sc3 : ScT Tryd.prog 3 := ⟨fun w => Tryd.isAgg3 w, fun w => Tryd.sizeOf3 w⟩
theorem sc4 : ScT Tryd.prog 4 := ⟨fun w => Tryd.isAgg4 w, fun w => Tryd.sizeOf4 w⟩
theorem sc5 : ScT Tryd.prog 5 := ⟨fun w => Tryd.isAgg5 w, fun w => Tryd.sizeOf5 w⟩
theorem sc6 : ScT Tryd.prog 6 := ⟨fun w => Tryd.isAgg6 w, fun w => Tryd.sizeOf6 w⟩
theorem sc9 : ScT Tryd.prog 9 := ⟨fun w => Tryd.isAgg9 w, fun w => Tryd.sizeOf9 w⟩
theorem sc10 : ScT Tryd.prog 10 := ⟨fun w => Tryd.isAgg10 w, fun w => Tryd.sizeOf10 w⟩
theorem sc11 : ScT Tryd.prog 11 := ⟨fun w => Tryd.isAgg11 w, fun w => Tryd.sizeOf11 w⟩
theorem sc12 : ScT Tryd.prog 12 := ⟨fun w => Tryd.isAgg12 w, fun w => Tryd.sizeOf12 w⟩
theorem sc15 : ScT Tryd.prog 15 := ⟨fun w => Tryd.isAgg15 w, fun w => Tryd.sizeOf15 w⟩
theorem sc16 : ScT Tryd.prog 16 := ⟨fun w => Tryd.isAgg16 w, fun w => Tryd.sizeOf16 w⟩
theorem sc17 : ScT Tryd.prog 17 := ⟨fun w => Tryd.isAgg17 w, fun w => Tryd.sizeOf17 w⟩
theorem sc20 : ScT Tryd.prog 20 := ⟨fun w => Tryd.isAgg20 w, fun w => Tryd.sizeOf20 w⟩
theorem sc21 : ScT Tryd.prog 21 := ⟨fun w => Tryd.isAgg21 w, fun w => Tryd.sizeOf21 w⟩
theorem sc22 : ScT Tryd.prog 22 := ⟨fun w => Tryd.isAgg22 w, fun w => Tryd.sizeOf22 w⟩
theorem sc23 : ScT Tryd.prog 23 := ⟨fun w => Tryd.isAgg23 w, fun w => Tryd.sizeOf23 w⟩
theorem sc24 : ScT Tryd.prog 24 := ⟨fun w => Tryd.isAgg24 w, fun w => Tryd.sizeOf24 w⟩
theorem sc25 : ScT Tryd.prog 25 := ⟨fun w => Tryd.isAgg25 w, fun w => Tryd.sizeOf25 w⟩
theorem sc26 : ScT Tryd.prog 26 := ⟨fun w => Tryd.isAgg26 w, fun w => Tryd.sizeOf26 w⟩
theorem sc27 : ScT Tryd.prog 27 := ⟨fun w => Tryd.isAgg27 w, fun w => Tryd.sizeOf27 w⟩
theorem sc28 : ScT Tryd.prog 28 := ⟨fun w => Tryd.isAgg28 w, fun w => Tryd.sizeOf28 w⟩
theorem sc29 : ScT Tryd.prog 29 := ⟨fun w => Tryd.isAgg29 w, fun w => Tryd.sizeOf29 w⟩
theorem sc30 : ScT Tryd.prog 30 := ⟨fun w => Tryd.isAgg30 w, fun w => Tryd.sizeOf30 w⟩
theorem sc32 : ScT Tryd.prog 32 := ⟨fun w => Tryd.isAgg32 w, fun w => Tryd.sizeOf32 w⟩
theorem sc33 : ScT Tryd.prog 33 := ⟨fun w => Tryd.isAgg33 w, fun w => Tryd.sizeOf33 w⟩
theorem sc34 : ScT Tryd.prog 34 := ⟨fun w => Tryd.isAgg34 w, fun w => Tryd.sizeOf34 w⟩
theorem sc36 : ScT Tryd.prog 36 := ⟨fun w => Tryd.isAgg36 w, fun w => Tryd.sizeOf36 w⟩
theorem sc38 : ScT Tryd.prog 38 := ⟨fun w => Tryd.isAgg38 w, fun w => Tryd.sizeOf38 w⟩
theorem sc39 : ScT Tryd.prog 39 := ⟨fun w => Tryd.isAgg39 w, fun w => Tryd.sizeOf39 w⟩
theorem sc40 : ScT Tryd.prog 40 := ⟨fun w => Tryd.isAgg40 w, fun w => Tryd.sizeOf40 w⟩
theorem sc41 : ScT Tryd.prog 41 := ⟨fun w => Tryd.isAgg41 w, fun w => Tryd.sizeOf41 w⟩
theorem sc42 : ScT Tryd.prog 42 := ⟨fun w => Tryd.isAgg42 w, fun w => Tryd.sizeOf42 w⟩
theorem sc44 : ScT Tryd.prog 44 := ⟨fun w => Tryd.isAgg44 w, fun w => Tryd.sizeOf44 w⟩
theorem sc45 : ScT Tryd.prog 45 := ⟨fun w => Tryd.isAgg45 w, fun w => Tryd.sizeOf45 w⟩
theorem sc46 : ScT Tryd.prog 46 := ⟨fun w => Tryd.isAgg46 w, fun w => Tryd.sizeOf46 w⟩
theorem sc51 : ScT Tryd.prog 51 := ⟨fun w => Tryd.isAgg51 w, fun w => Tryd.sizeOf51 w⟩
theorem sc56 : ScT Tryd.prog 56 := ⟨fun w => Tryd.isAgg56 w, fun w => Tryd.sizeOf56 w⟩
theorem sc59 : ScT Tryd.prog 59 := ⟨fun w => Tryd.isAgg59 w, fun w => Tryd.sizeOf59 w⟩
theorem sc60 : ScT Tryd.prog 60 := ⟨fun w => Tryd.isAgg60 w, fun w => Tryd.sizeOf60 w⟩
theorem sc61 : ScT Tryd.prog 61 := ⟨fun w => Tryd.isAgg61 w, fun w => Tryd.sizeOf61 w⟩
theorem sc63 : ScT Tryd.prog 63 := ⟨fun w => Tryd.isAgg63 w, fun w => Tryd.sizeOf63 w⟩
theorem sc64 : ScT Tryd.prog 64 := ⟨fun w => Tryd.isAgg64 w, fun w => Tryd.sizeOf64 w⟩
theorem sc65 : ScT Tryd.prog 65 := ⟨fun w => Tryd.isAgg65 w, fun w => Tryd.sizeOf65 w⟩
theorem sc66 : ScT Tryd.prog 66 := ⟨fun w => Tryd.isAgg66 w, fun w => Tryd.sizeOf66 w⟩
theorem sc67 : ScT Tryd.prog 67 := ⟨fun w => Tryd.isAgg67 w, fun w => Tryd.sizeOf67 w⟩
theorem sc68 : ScT Tryd.prog 68 := ⟨fun w => Tryd.isAgg68 w, fun w => Tryd.sizeOf68 w⟩
theorem sc69 : ScT Tryd.prog 69 := ⟨fun w => Tryd.isAgg69 w, fun w => Tryd.sizeOf69 w⟩
theorem sc70 : ScT Tryd.prog 70 := ⟨fun w => Tryd.isAgg70 w, fun w => Tryd.sizeOf70 w⟩
theorem sc71 : ScT Tryd.prog 71 := ⟨fun w => Tryd.isAgg71 w, fun w => Tryd.sizeOf71 w⟩
theorem sc72 : ScT Tryd.prog 72 := ⟨fun w => Tryd.isAgg72 w, fun w => Tryd.sizeOf72 w⟩
theorem sc73 : ScT Tryd.prog 73 := ⟨fun w => Tryd.isAgg73 w, fun w => Tryd.sizeOf73 w⟩
theorem sc74 : ScT Tryd.prog 74 := ⟨fun w => Tryd.isAgg74 w, fun w => Tryd.sizeOf74 w⟩
theorem sc75 : ScT Tryd.prog 75 := ⟨fun w => Tryd.isAgg75 w, fun w => Tryd.sizeOf75 w⟩
theorem sc76 : ScT Tryd.prog 76 := ⟨fun w => Tryd.isAgg76 w, fun w => Tryd.sizeOf76 w⟩
theorem sc77 : ScT Tryd.prog 77 := ⟨fun w => Tryd.isAgg77 w, fun w => Tryd.sizeOf77 w⟩
theorem sc78 : ScT Tryd.prog 78 := ⟨fun w => Tryd.isAgg78 w, fun w => Tryd.sizeOf78 w⟩
theorem sc79 : ScT Tryd.prog 79 := ⟨fun w => Tryd.isAgg79 w, fun w => Tryd.sizeOf79 w⟩
theorem sc80 : ScT Tryd.prog 80 := ⟨fun w => Tryd.isAgg80 w, fun w => Tryd.sizeOf80 w⟩
theorem sc81 : ScT Tryd.prog 81 := ⟨fun w => Tryd.isAgg81 w, fun w => Tryd.sizeOf81 w⟩
theorem sc87 : ScT Tryd.prog 87 := ⟨fun w => Tryd.isAgg87 w, fun w => Tryd.sizeOf87 w⟩
theorem sc88 : ScT Tryd.prog 88 := ⟨fun w => Tryd.isAgg88 w, fun w => Tryd.sizeOf88 w⟩
theorem sc89 : ScT Tryd.prog 89 := ⟨fun w => Tryd.isAgg89 w, fun w => Tryd.sizeOf89 w⟩
theorem sc90 : ScT Tryd.prog 90 := ⟨fun w => Tryd.isAgg90 w, fun w => Tryd.sizeOf90 w⟩
theorem sc91 : ScT Tryd.prog 91 := ⟨fun w => Tryd.isAgg91 w, fun w => Tryd.sizeOf91 w⟩
theorem sc92 : ScT Tryd.prog 92 := ⟨fun w => Tryd.isAgg92 w, fun w => Tryd.sizeOf92 w⟩
theorem sc93 : ScT Tryd.prog 93 := ⟨fun w => Tryd.isAgg93 w, fun w => Tryd.sizeOf93 w⟩
theorem sl23 : SlT Tryd.prog 23 5 1 1 (.int .u8 0) := ⟨Tryd.underlying23, by decide, rfl, Tryd.t5, by kernel_rfl, rfl, rfl, rfl⟩
theorem sl45 : SlT Tryd.prog 45 22 1 4 (.int .u32 0) := ⟨Tryd.underlying45, by decide, rfl, Tryd.t22, by kernel_rfl, rfl, rfl, rfl⟩
theorem sl46 : SlT Tryd.prog 46 3 1 8 (.int .i64 0) := ⟨Tryd.underlying46, by decide, rfl, Tryd.t3, by kernel_rfl, rfl, rfl, rfl⟩
end Go.Proofs.YtfcmklmeinchhaaDoor
