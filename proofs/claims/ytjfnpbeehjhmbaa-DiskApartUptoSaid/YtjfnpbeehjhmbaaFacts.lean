/- Closed facts on the types of this translation, by program. -/
import Derived.Test.YtjfnpbeehjhmbaaVD
import Derived.Test.YtjfnpbeehjhmbaaProg
set_option maxRecDepth 100000
set_option linter.all false
namespace Go.Proofs.Ytjfnpbeehjhmbaa
open Go Vw
theorem ag7 : AgT Try.prog 7 4 := ⟨fun w => Try.isAgg7 w, fun w => Try.sizeOf7 w⟩
theorem ag8 : AgT Try.prog 8 4 := ⟨fun w => Try.isAgg8 w, fun w => Try.sizeOf8 w⟩
theorem ag13 : AgT Try.prog 13 2 := ⟨fun w => Try.isAgg13 w, fun w => Try.sizeOf13 w⟩
theorem ag14 : AgT Try.prog 14 2 := ⟨fun w => Try.isAgg14 w, fun w => Try.sizeOf14 w⟩
theorem ag18 : AgT Try.prog 18 1 := ⟨fun w => Try.isAgg18 w, fun w => Try.sizeOf18 w⟩
theorem ag19 : AgT Try.prog 19 1 := ⟨fun w => Try.isAgg19 w, fun w => Try.sizeOf19 w⟩
theorem ag39 : AgT Try.prog 39 3 := ⟨fun w => Try.isAgg39 w, fun w => Try.sizeOf39 w⟩
theorem ag40 : AgT Try.prog 40 3 := ⟨fun w => Try.isAgg40 w, fun w => Try.sizeOf40 w⟩
theorem ag41 : AgT Try.prog 41 7 := ⟨fun w => Try.isAgg41 w, fun w => Try.sizeOf41 w⟩
theorem ag42 : AgT Try.prog 42 7 := ⟨fun w => Try.isAgg42 w, fun w => Try.sizeOf42 w⟩
theorem ag77 : AgT Try.prog 77 8 := ⟨fun w => Try.isAgg77 w, fun w => Try.sizeOf77 w⟩
theorem ag78 : AgT Try.prog 78 8 := ⟨fun w => Try.isAgg78 w, fun w => Try.sizeOf78 w⟩
theorem ag82 : AgT Try.prog 82 2 := ⟨fun w => Try.isAgg82 w, fun w => Try.sizeOf82 w⟩
theorem ag83 : AgT Try.prog 83 2 := ⟨fun w => Try.isAgg83 w, fun w => Try.sizeOf83 w⟩
theorem ag89 : AgT Try.prog 89 8 := ⟨fun w => Try.isAgg89 w, fun w => Try.sizeOf89 w⟩
theorem ag90 : AgT Try.prog 90 8 := ⟨fun w => Try.isAgg90 w, fun w => Try.sizeOf90 w⟩
theorem ag93 : AgT Try.prog 93 3 := ⟨fun w => Try.isAgg93 w, fun w => Try.sizeOf93 w⟩
theorem ag94 : AgT Try.prog 94 3 := ⟨fun w => Try.isAgg94 w, fun w => Try.sizeOf94 w⟩
theorem ag97 : AgT Try.prog 97 4 := ⟨fun w => Try.isAgg97 w, fun w => Try.sizeOf97 w⟩
theorem ag98 : AgT Try.prog 98 4 := ⟨fun w => Try.isAgg98 w, fun w => Try.sizeOf98 w⟩
theorem ag109 : AgT Try.prog 109 11 := ⟨fun w => Try.isAgg109 w, fun w => Try.sizeOf109 w⟩
theorem ag110 : AgT Try.prog 110 11 := ⟨fun w => Try.isAgg110 w, fun w => Try.sizeOf110 w⟩
theorem fo7_0 : FoT Try.prog 7 0 0 := ⟨_, _, 0, Try.underlying7, rfl, rfl, fun w => Try.sizeOf2 w⟩
theorem fo7_1 : FoT Try.prog 7 1 1 := ⟨_, _, 0, Try.underlying7, rfl, rfl, fun w => Try.sizeOf3 w⟩
theorem fo7_2 : FoT Try.prog 7 2 2 := ⟨_, _, 0, Try.underlying7, rfl, rfl, fun w => Try.sizeOf4 w⟩
theorem fo7_3 : FoT Try.prog 7 3 3 := ⟨_, _, 0, Try.underlying7, rfl, rfl, fun w => Try.sizeOf6 w⟩
theorem fo8_0 : FoT Try.prog 8 0 0 := ⟨_, _, 0, Try.underlying8, rfl, rfl, fun w => Try.sizeOf2 w⟩
theorem fo8_1 : FoT Try.prog 8 1 1 := ⟨_, _, 0, Try.underlying8, rfl, rfl, fun w => Try.sizeOf3 w⟩
theorem fo8_2 : FoT Try.prog 8 2 2 := ⟨_, _, 0, Try.underlying8, rfl, rfl, fun w => Try.sizeOf4 w⟩
theorem fo8_3 : FoT Try.prog 8 3 3 := ⟨_, _, 0, Try.underlying8, rfl, rfl, fun w => Try.sizeOf6 w⟩
theorem fo13_0 : FoT Try.prog 13 0 0 := ⟨_, _, 0, Try.underlying13, rfl, rfl, fun w => Try.sizeOf9 w⟩
theorem fo13_1 : FoT Try.prog 13 1 1 := ⟨_, _, 0, Try.underlying13, rfl, rfl, fun w => Try.sizeOf12 w⟩
theorem fo14_0 : FoT Try.prog 14 0 0 := ⟨_, _, 0, Try.underlying14, rfl, rfl, fun w => Try.sizeOf9 w⟩
theorem fo14_1 : FoT Try.prog 14 1 1 := ⟨_, _, 0, Try.underlying14, rfl, rfl, fun w => Try.sizeOf12 w⟩
theorem fo18_0 : FoT Try.prog 18 0 0 := ⟨_, _, 0, Try.underlying18, rfl, rfl, fun w => Try.sizeOf17 w⟩
theorem fo19_0 : FoT Try.prog 19 0 0 := ⟨_, _, 0, Try.underlying19, rfl, rfl, fun w => Try.sizeOf17 w⟩
theorem fo39_0 : FoT Try.prog 39 0 0 := ⟨_, _, 0, Try.underlying39, rfl, rfl, fun w => Try.sizeOf3 w⟩
theorem fo39_1 : FoT Try.prog 39 1 1 := ⟨_, _, 0, Try.underlying39, rfl, rfl, fun w => Try.sizeOf38 w⟩
theorem fo39_2 : FoT Try.prog 39 2 2 := ⟨_, _, 0, Try.underlying39, rfl, rfl, fun w => Try.sizeOf3 w⟩
theorem fo40_0 : FoT Try.prog 40 0 0 := ⟨_, _, 0, Try.underlying40, rfl, rfl, fun w => Try.sizeOf3 w⟩
theorem fo40_1 : FoT Try.prog 40 1 1 := ⟨_, _, 0, Try.underlying40, rfl, rfl, fun w => Try.sizeOf38 w⟩
theorem fo40_2 : FoT Try.prog 40 2 2 := ⟨_, _, 0, Try.underlying40, rfl, rfl, fun w => Try.sizeOf3 w⟩
theorem fo41_0 : FoT Try.prog 41 0 0 := ⟨_, _, 0, Try.underlying41, rfl, rfl, fun w => Try.sizeOf3 w⟩
theorem fo41_1 : FoT Try.prog 41 1 1 := ⟨_, _, 0, Try.underlying41, rfl, rfl, fun w => Try.sizeOf3 w⟩
theorem fo41_2 : FoT Try.prog 41 2 2 := ⟨_, _, 0, Try.underlying41, rfl, rfl, fun w => Try.sizeOf3 w⟩
theorem fo41_3 : FoT Try.prog 41 3 3 := ⟨_, _, 0, Try.underlying41, rfl, rfl, fun w => Try.sizeOf22 w⟩
theorem fo41_4 : FoT Try.prog 41 4 4 := ⟨_, _, 2, Try.underlying41, rfl, rfl, fun w => Try.sizeOf40 w⟩
theorem fo42_0 : FoT Try.prog 42 0 0 := ⟨_, _, 0, Try.underlying42, rfl, rfl, fun w => Try.sizeOf3 w⟩
theorem fo42_1 : FoT Try.prog 42 1 1 := ⟨_, _, 0, Try.underlying42, rfl, rfl, fun w => Try.sizeOf3 w⟩
theorem fo42_2 : FoT Try.prog 42 2 2 := ⟨_, _, 0, Try.underlying42, rfl, rfl, fun w => Try.sizeOf3 w⟩
theorem fo42_3 : FoT Try.prog 42 3 3 := ⟨_, _, 0, Try.underlying42, rfl, rfl, fun w => Try.sizeOf22 w⟩
theorem fo42_4 : FoT Try.prog 42 4 4 := ⟨_, _, 2, Try.underlying42, rfl, rfl, fun w => Try.sizeOf40 w⟩
theorem fo77_0 : FoT Try.prog 77 0 0 := ⟨_, _, 0, Try.underlying77, rfl, rfl, fun w => Try.sizeOf3 w⟩
theorem fo77_1 : FoT Try.prog 77 1 1 := ⟨_, _, 0, Try.underlying77, rfl, rfl, fun w => Try.sizeOf22 w⟩
theorem fo77_2 : FoT Try.prog 77 2 2 := ⟨_, _, 0, Try.underlying77, rfl, rfl, fun w => Try.sizeOf22 w⟩
theorem fo77_3 : FoT Try.prog 77 3 3 := ⟨_, _, 0, Try.underlying77, rfl, rfl, fun w => Try.sizeOf76 w⟩
theorem fo77_4 : FoT Try.prog 77 4 4 := ⟨_, _, 0, Try.underlying77, rfl, rfl, fun w => Try.sizeOf38 w⟩
theorem fo77_5 : FoT Try.prog 77 5 5 := ⟨_, _, 0, Try.underlying77, rfl, rfl, fun w => Try.sizeOf3 w⟩
theorem fo77_6 : FoT Try.prog 77 6 6 := ⟨_, _, 0, Try.underlying77, rfl, rfl, fun w => Try.sizeOf3 w⟩
theorem fo77_7 : FoT Try.prog 77 7 7 := ⟨_, _, 0, Try.underlying77, rfl, rfl, fun w => Try.sizeOf4 w⟩
theorem fo78_0 : FoT Try.prog 78 0 0 := ⟨_, _, 0, Try.underlying78, rfl, rfl, fun w => Try.sizeOf3 w⟩
theorem fo78_1 : FoT Try.prog 78 1 1 := ⟨_, _, 0, Try.underlying78, rfl, rfl, fun w => Try.sizeOf22 w⟩
theorem fo78_2 : FoT Try.prog 78 2 2 := ⟨_, _, 0, Try.underlying78, rfl, rfl, fun w => Try.sizeOf22 w⟩
theorem fo78_3 : FoT Try.prog 78 3 3 := ⟨_, _, 0, Try.underlying78, rfl, rfl, fun w => Try.sizeOf76 w⟩
theorem fo78_4 : FoT Try.prog 78 4 4 := ⟨_, _, 0, Try.underlying78, rfl, rfl, fun w => Try.sizeOf38 w⟩
theorem fo78_5 : FoT Try.prog 78 5 5 := ⟨_, _, 0, Try.underlying78, rfl, rfl, fun w => Try.sizeOf3 w⟩
theorem fo78_6 : FoT Try.prog 78 6 6 := ⟨_, _, 0, Try.underlying78, rfl, rfl, fun w => Try.sizeOf3 w⟩
theorem fo78_7 : FoT Try.prog 78 7 7 := ⟨_, _, 0, Try.underlying78, rfl, rfl, fun w => Try.sizeOf4 w⟩
theorem fo82_0 : FoT Try.prog 82 0 0 := ⟨_, _, 0, Try.underlying82, rfl, rfl, fun w => Try.sizeOf3 w⟩
theorem fo82_1 : FoT Try.prog 82 1 1 := ⟨_, _, 0, Try.underlying82, rfl, rfl, fun w => Try.sizeOf22 w⟩
theorem fo83_0 : FoT Try.prog 83 0 0 := ⟨_, _, 0, Try.underlying83, rfl, rfl, fun w => Try.sizeOf3 w⟩
theorem fo83_1 : FoT Try.prog 83 1 1 := ⟨_, _, 0, Try.underlying83, rfl, rfl, fun w => Try.sizeOf22 w⟩
theorem fo89_0 : FoT Try.prog 89 0 0 := ⟨_, _, 0, Try.underlying89, rfl, rfl, fun w => Try.sizeOf3 w⟩
theorem fo89_1 : FoT Try.prog 89 1 1 := ⟨_, _, 0, Try.underlying89, rfl, rfl, fun w => Try.sizeOf22 w⟩
theorem fo89_2 : FoT Try.prog 89 2 2 := ⟨_, _, 0, Try.underlying89, rfl, rfl, fun w => Try.sizeOf22 w⟩
theorem fo89_3 : FoT Try.prog 89 3 3 := ⟨_, _, 0, Try.underlying89, rfl, rfl, fun w => Try.sizeOf88 w⟩
theorem fo89_4 : FoT Try.prog 89 4 4 := ⟨_, _, 0, Try.underlying89, rfl, rfl, fun w => Try.sizeOf38 w⟩
theorem fo89_5 : FoT Try.prog 89 5 5 := ⟨_, _, 0, Try.underlying89, rfl, rfl, fun w => Try.sizeOf3 w⟩
theorem fo89_6 : FoT Try.prog 89 6 6 := ⟨_, _, 0, Try.underlying89, rfl, rfl, fun w => Try.sizeOf3 w⟩
theorem fo89_7 : FoT Try.prog 89 7 7 := ⟨_, _, 0, Try.underlying89, rfl, rfl, fun w => Try.sizeOf4 w⟩
theorem fo90_0 : FoT Try.prog 90 0 0 := ⟨_, _, 0, Try.underlying90, rfl, rfl, fun w => Try.sizeOf3 w⟩
theorem fo90_1 : FoT Try.prog 90 1 1 := ⟨_, _, 0, Try.underlying90, rfl, rfl, fun w => Try.sizeOf22 w⟩
theorem fo90_2 : FoT Try.prog 90 2 2 := ⟨_, _, 0, Try.underlying90, rfl, rfl, fun w => Try.sizeOf22 w⟩
theorem fo90_3 : FoT Try.prog 90 3 3 := ⟨_, _, 0, Try.underlying90, rfl, rfl, fun w => Try.sizeOf88 w⟩
theorem fo90_4 : FoT Try.prog 90 4 4 := ⟨_, _, 0, Try.underlying90, rfl, rfl, fun w => Try.sizeOf38 w⟩
theorem fo90_5 : FoT Try.prog 90 5 5 := ⟨_, _, 0, Try.underlying90, rfl, rfl, fun w => Try.sizeOf3 w⟩
theorem fo90_6 : FoT Try.prog 90 6 6 := ⟨_, _, 0, Try.underlying90, rfl, rfl, fun w => Try.sizeOf3 w⟩
theorem fo90_7 : FoT Try.prog 90 7 7 := ⟨_, _, 0, Try.underlying90, rfl, rfl, fun w => Try.sizeOf4 w⟩
theorem fo93_0 : FoT Try.prog 93 0 0 := ⟨_, _, 0, Try.underlying93, rfl, rfl, fun w => Try.sizeOf3 w⟩
theorem fo93_1 : FoT Try.prog 93 1 1 := ⟨_, _, 0, Try.underlying93, rfl, rfl, fun w => Try.sizeOf3 w⟩
theorem fo93_2 : FoT Try.prog 93 2 2 := ⟨_, _, 0, Try.underlying93, rfl, rfl, fun w => Try.sizeOf22 w⟩
theorem fo94_0 : FoT Try.prog 94 0 0 := ⟨_, _, 0, Try.underlying94, rfl, rfl, fun w => Try.sizeOf3 w⟩
theorem fo94_1 : FoT Try.prog 94 1 1 := ⟨_, _, 0, Try.underlying94, rfl, rfl, fun w => Try.sizeOf3 w⟩
theorem fo94_2 : FoT Try.prog 94 2 2 := ⟨_, _, 0, Try.underlying94, rfl, rfl, fun w => Try.sizeOf22 w⟩
theorem fo97_0 : FoT Try.prog 97 0 0 := ⟨_, _, 0, Try.underlying97, rfl, rfl, fun w => Try.sizeOf17 w⟩
theorem fo97_1 : FoT Try.prog 97 1 1 := ⟨_, _, 0, Try.underlying97, rfl, rfl, fun w => Try.sizeOf17 w⟩
theorem fo97_2 : FoT Try.prog 97 2 2 := ⟨_, _, 0, Try.underlying97, rfl, rfl, fun w => Try.sizeOf17 w⟩
theorem fo97_3 : FoT Try.prog 97 3 3 := ⟨_, _, 0, Try.underlying97, rfl, rfl, fun w => Try.sizeOf9 w⟩
theorem fo98_0 : FoT Try.prog 98 0 0 := ⟨_, _, 0, Try.underlying98, rfl, rfl, fun w => Try.sizeOf17 w⟩
theorem fo98_1 : FoT Try.prog 98 1 1 := ⟨_, _, 0, Try.underlying98, rfl, rfl, fun w => Try.sizeOf17 w⟩
theorem fo98_2 : FoT Try.prog 98 2 2 := ⟨_, _, 0, Try.underlying98, rfl, rfl, fun w => Try.sizeOf17 w⟩
theorem fo98_3 : FoT Try.prog 98 3 3 := ⟨_, _, 0, Try.underlying98, rfl, rfl, fun w => Try.sizeOf9 w⟩
theorem fo109_0 : FoT Try.prog 109 0 0 := ⟨_, _, 0, Try.underlying109, rfl, rfl, fun w => Try.sizeOf12 w⟩
theorem fo109_1 : FoT Try.prog 109 1 1 := ⟨_, _, 0, Try.underlying109, rfl, rfl, fun w => Try.sizeOf12 w⟩
theorem fo109_2 : FoT Try.prog 109 2 2 := ⟨_, _, 0, Try.underlying109, rfl, rfl, fun w => Try.sizeOf102 w⟩
theorem fo109_3 : FoT Try.prog 109 3 3 := ⟨_, _, 0, Try.underlying109, rfl, rfl, fun w => Try.sizeOf103 w⟩
theorem fo109_4 : FoT Try.prog 109 4 4 := ⟨_, _, 0, Try.underlying109, rfl, rfl, fun w => Try.sizeOf5 w⟩
theorem fo109_5 : FoT Try.prog 109 5 5 := ⟨_, _, 0, Try.underlying109, rfl, rfl, fun w => Try.sizeOf5 w⟩
theorem fo109_6 : FoT Try.prog 109 6 6 := ⟨_, _, 0, Try.underlying109, rfl, rfl, fun w => Try.sizeOf104 w⟩
theorem fo109_7 : FoT Try.prog 109 7 7 := ⟨_, _, 0, Try.underlying109, rfl, rfl, fun w => Try.sizeOf105 w⟩
theorem fo109_8 : FoT Try.prog 109 8 8 := ⟨_, _, 0, Try.underlying109, rfl, rfl, fun w => Try.sizeOf106 w⟩
theorem fo109_9 : FoT Try.prog 109 9 9 := ⟨_, _, 0, Try.underlying109, rfl, rfl, fun w => Try.sizeOf107 w⟩
theorem fo109_10 : FoT Try.prog 109 10 10 := ⟨_, _, 0, Try.underlying109, rfl, rfl, fun w => Try.sizeOf108 w⟩
theorem fo110_0 : FoT Try.prog 110 0 0 := ⟨_, _, 0, Try.underlying110, rfl, rfl, fun w => Try.sizeOf12 w⟩
theorem fo110_1 : FoT Try.prog 110 1 1 := ⟨_, _, 0, Try.underlying110, rfl, rfl, fun w => Try.sizeOf12 w⟩
theorem fo110_2 : FoT Try.prog 110 2 2 := ⟨_, _, 0, Try.underlying110, rfl, rfl, fun w => Try.sizeOf102 w⟩
theorem fo110_3 : FoT Try.prog 110 3 3 := ⟨_, _, 0, Try.underlying110, rfl, rfl, fun w => Try.sizeOf103 w⟩
theorem fo110_4 : FoT Try.prog 110 4 4 := ⟨_, _, 0, Try.underlying110, rfl, rfl, fun w => Try.sizeOf5 w⟩
theorem fo110_5 : FoT Try.prog 110 5 5 := ⟨_, _, 0, Try.underlying110, rfl, rfl, fun w => Try.sizeOf5 w⟩
theorem fo110_6 : FoT Try.prog 110 6 6 := ⟨_, _, 0, Try.underlying110, rfl, rfl, fun w => Try.sizeOf104 w⟩
theorem fo110_7 : FoT Try.prog 110 7 7 := ⟨_, _, 0, Try.underlying110, rfl, rfl, fun w => Try.sizeOf105 w⟩
theorem fo110_8 : FoT Try.prog 110 8 8 := ⟨_, _, 0, Try.underlying110, rfl, rfl, fun w => Try.sizeOf106 w⟩
theorem fo110_9 : FoT Try.prog 110 9 9 := ⟨_, _, 0, Try.underlying110, rfl, rfl, fun w => Try.sizeOf107 w⟩
theorem fo110_10 : FoT Try.prog 110 10 10 := ⟨_, _, 0, Try.underlying110, rfl, rfl, fun w => Try.sizeOf108 w⟩
theorem sc1 : ScT Try.prog 1 := ⟨fun w => Try.isAgg1 w, fun w => Try.sizeOf1 w⟩
theorem sc2 : ScT Try.prog 2 := ⟨fun w => Try.isAgg2 w, fun w => Try.sizeOf2 w⟩
theorem sc3 : ScT Try.prog 3 := ⟨fun w => Try.isAgg3 w, fun w => Try.sizeOf3 w⟩
theorem sc4 : ScT Try.prog 4 := ⟨fun w => Try.isAgg4 w, fun w => Try.sizeOf4 w⟩
theorem sc5 : ScT Try.prog 5 := ⟨fun w => Try.isAgg5 w, fun w => Try.sizeOf5 w⟩
theorem sc6 : ScT Try.prog 6 := ⟨fun w => Try.isAgg6 w, fun w => Try.sizeOf6 w⟩
theorem sc9 : ScT Try.prog 9 := ⟨fun w => Try.isAgg9 w, fun w => Try.sizeOf9 w⟩
theorem sc10 : ScT Try.prog 10 := ⟨fun w => Try.isAgg10 w, fun w => Try.sizeOf10 w⟩
theorem sc11 : ScT Try.prog 11 := ⟨fun w => Try.isAgg11 w, fun w => Try.sizeOf11 w⟩
theorem sc12 : ScT Try.prog 12 := ⟨fun w => Try.isAgg12 w, fun w => Try.sizeOf12 w⟩
theorem sc15 : ScT Try.prog 15 := ⟨fun w => Try.isAgg15 w, fun w => Try.sizeOf15 w⟩
theorem sc16 : ScT Try.prog 16 := ⟨fun w => Try.isAgg16 w, fun w => Try.sizeOf16 w⟩
theorem sc17 : ScT Try.prog 17 := ⟨fun w => Try.isAgg17 w, fun w => Try.sizeOf17 w⟩
theorem sc20 : ScT Try.prog 20 := ⟨fun w => Try.isAgg20 w, fun w => Try.sizeOf20 w⟩
theorem sc21 : ScT Try.prog 21 := ⟨fun w => Try.isAgg21 w, fun w => Try.sizeOf21 w⟩
theorem sc22 : ScT Try.prog 22 := ⟨fun w => Try.isAgg22 w, fun w => Try.sizeOf22 w⟩
theorem sc23 : ScT Try.prog 23 := ⟨fun w => Try.isAgg23 w, fun w => Try.sizeOf23 w⟩
theorem sc24 : ScT Try.prog 24 := ⟨fun w => Try.isAgg24 w, fun w => Try.sizeOf24 w⟩
theorem sc26 : ScT Try.prog 26 := ⟨fun w => Try.isAgg26 w, fun w => Try.sizeOf26 w⟩
theorem sc27 : ScT Try.prog 27 := ⟨fun w => Try.isAgg27 w, fun w => Try.sizeOf27 w⟩
theorem sc28 : ScT Try.prog 28 := ⟨fun w => Try.isAgg28 w, fun w => Try.sizeOf28 w⟩
theorem sc29 : ScT Try.prog 29 := ⟨fun w => Try.isAgg29 w, fun w => Try.sizeOf29 w⟩
theorem sc30 : ScT Try.prog 30 := ⟨fun w => Try.isAgg30 w, fun w => Try.sizeOf30 w⟩
theorem sc31 : ScT Try.prog 31 := ⟨fun w => Try.isAgg31 w, fun w => Try.sizeOf31 w⟩
theorem sc32 : ScT Try.prog 32 := ⟨fun w => Try.isAgg32 w, fun w => Try.sizeOf32 w⟩
theorem sc33 : ScT Try.prog 33 := ⟨fun w => Try.isAgg33 w, fun w => Try.sizeOf33 w⟩
theorem sc34 : ScT Try.prog 34 := ⟨fun w => Try.isAgg34 w, fun w => Try.sizeOf34 w⟩
theorem sc35 : ScT Try.prog 35 := ⟨fun w => Try.isAgg35 w, fun w => Try.sizeOf35 w⟩
theorem sc36 : ScT Try.prog 36 := ⟨fun w => Try.isAgg36 w, fun w => Try.sizeOf36 w⟩
theorem sc37 : ScT Try.prog 37 := ⟨fun w => Try.isAgg37 w, fun w => Try.sizeOf37 w⟩
theorem sc38 : ScT Try.prog 38 := ⟨fun w => Try.isAgg38 w, fun w => Try.sizeOf38 w⟩
theorem sc44 : ScT Try.prog 44 := ⟨fun w => Try.isAgg44 w, fun w => Try.sizeOf44 w⟩
theorem sc45 : ScT Try.prog 45 := ⟨fun w => Try.isAgg45 w, fun w => Try.sizeOf45 w⟩
theorem sc46 : ScT Try.prog 46 := ⟨fun w => Try.isAgg46 w, fun w => Try.sizeOf46 w⟩
theorem sc48 : ScT Try.prog 48 := ⟨fun w => Try.isAgg48 w, fun w => Try.sizeOf48 w⟩
theorem sc49 : ScT Try.prog 49 := ⟨fun w => Try.isAgg49 w, fun w => Try.sizeOf49 w⟩
theorem sc50 : ScT Try.prog 50 := ⟨fun w => Try.isAgg50 w, fun w => Try.sizeOf50 w⟩
theorem sc51 : ScT Try.prog 51 := ⟨fun w => Try.isAgg51 w, fun w => Try.sizeOf51 w⟩
theorem sc52 : ScT Try.prog 52 := ⟨fun w => Try.isAgg52 w, fun w => Try.sizeOf52 w⟩
theorem sc53 : ScT Try.prog 53 := ⟨fun w => Try.isAgg53 w, fun w => Try.sizeOf53 w⟩
theorem sc54 : ScT Try.prog 54 := ⟨fun w => Try.isAgg54 w, fun w => Try.sizeOf54 w⟩
theorem sc55 : ScT Try.prog 55 := ⟨fun w => Try.isAgg55 w, fun w => Try.sizeOf55 w⟩
theorem sc56 : ScT Try.prog 56 := ⟨fun w => Try.isAgg56 w, fun w => Try.sizeOf56 w⟩
theorem sc57 : ScT Try.prog 57 := ⟨fun w => Try.isAgg57 w, fun w => Try.sizeOf57 w⟩
theorem sc58 : ScT Try.prog 58 := ⟨fun w => Try.isAgg58 w, fun w => Try.sizeOf58 w⟩
theorem sc59 : ScT Try.prog 59 := ⟨fun w => Try.isAgg59 w, fun w => Try.sizeOf59 w⟩
theorem sc60 : ScT Try.prog 60 := ⟨fun w => Try.isAgg60 w, fun w => Try.sizeOf60 w⟩
theorem sc61 : ScT Try.prog 61 := ⟨fun w => Try.isAgg61 w, fun w => Try.sizeOf61 w⟩
theorem sc62 : ScT Try.prog 62 := ⟨fun w => Try.isAgg62 w, fun w => Try.sizeOf62 w⟩
theorem sc63 : ScT Try.prog 63 := ⟨fun w => Try.isAgg63 w, fun w => Try.sizeOf63 w⟩
theorem sc64 : ScT Try.prog 64 := ⟨fun w => Try.isAgg64 w, fun w => Try.sizeOf64 w⟩
theorem sc65 : ScT Try.prog 65 := ⟨fun w => Try.isAgg65 w, fun w => Try.sizeOf65 w⟩
theorem sc66 : ScT Try.prog 66 := ⟨fun w => Try.isAgg66 w, fun w => Try.sizeOf66 w⟩
theorem sc67 : ScT Try.prog 67 := ⟨fun w => Try.isAgg67 w, fun w => Try.sizeOf67 w⟩
theorem sc68 : ScT Try.prog 68 := ⟨fun w => Try.isAgg68 w, fun w => Try.sizeOf68 w⟩
theorem sc69 : ScT Try.prog 69 := ⟨fun w => Try.isAgg69 w, fun w => Try.sizeOf69 w⟩
theorem sc70 : ScT Try.prog 70 := ⟨fun w => Try.isAgg70 w, fun w => Try.sizeOf70 w⟩
theorem sc71 : ScT Try.prog 71 := ⟨fun w => Try.isAgg71 w, fun w => Try.sizeOf71 w⟩
theorem sc73 : ScT Try.prog 73 := ⟨fun w => Try.isAgg73 w, fun w => Try.sizeOf73 w⟩
theorem sc74 : ScT Try.prog 74 := ⟨fun w => Try.isAgg74 w, fun w => Try.sizeOf74 w⟩
theorem sc75 : ScT Try.prog 75 := ⟨fun w => Try.isAgg75 w, fun w => Try.sizeOf75 w⟩
theorem sc76 : ScT Try.prog 76 := ⟨fun w => Try.isAgg76 w, fun w => Try.sizeOf76 w⟩
theorem sc79 : ScT Try.prog 79 := ⟨fun w => Try.isAgg79 w, fun w => Try.sizeOf79 w⟩
theorem sc80 : ScT Try.prog 80 := ⟨fun w => Try.isAgg80 w, fun w => Try.sizeOf80 w⟩
theorem sc81 : ScT Try.prog 81 := ⟨fun w => Try.isAgg81 w, fun w => Try.sizeOf81 w⟩
theorem sc84 : ScT Try.prog 84 := ⟨fun w => Try.isAgg84 w, fun w => Try.sizeOf84 w⟩
theorem sc85 : ScT Try.prog 85 := ⟨fun w => Try.isAgg85 w, fun w => Try.sizeOf85 w⟩
theorem sc86 : ScT Try.prog 86 := ⟨fun w => Try.isAgg86 w, fun w => Try.sizeOf86 w⟩
theorem sc87 : ScT Try.prog 87 := ⟨fun w => Try.isAgg87 w, fun w => Try.sizeOf87 w⟩
theorem sc88 : ScT Try.prog 88 := ⟨fun w => Try.isAgg88 w, fun w => Try.sizeOf88 w⟩
theorem sc92 : ScT Try.prog 92 := ⟨fun w => Try.isAgg92 w, fun w => Try.sizeOf92 w⟩
theorem sc95 : ScT Try.prog 95 := ⟨fun w => Try.isAgg95 w, fun w => Try.sizeOf95 w⟩
theorem sc96 : ScT Try.prog 96 := ⟨fun w => Try.isAgg96 w, fun w => Try.sizeOf96 w⟩
theorem sc102 : ScT Try.prog 102 := ⟨fun w => Try.isAgg102 w, fun w => Try.sizeOf102 w⟩
theorem sc103 : ScT Try.prog 103 := ⟨fun w => Try.isAgg103 w, fun w => Try.sizeOf103 w⟩
theorem sc104 : ScT Try.prog 104 := ⟨fun w => Try.isAgg104 w, fun w => Try.sizeOf104 w⟩
theorem sc105 : ScT Try.prog 105 := ⟨fun w => Try.isAgg105 w, fun w => Try.sizeOf105 w⟩
theorem sc106 : ScT Try.prog 106 := ⟨fun w => Try.isAgg106 w, fun w => Try.sizeOf106 w⟩
theorem sc107 : ScT Try.prog 107 := ⟨fun w => Try.isAgg107 w, fun w => Try.sizeOf107 w⟩
theorem sc108 : ScT Try.prog 108 := ⟨fun w => Try.isAgg108 w, fun w => Try.sizeOf108 w⟩
theorem sl22 : SlT Try.prog 22 5 1 1 (.int .u8 0) := ⟨Try.underlying22, by decide, rfl, Try.t5, by kernel_rfl, rfl, rfl, rfl⟩
theorem sl38 : SlT Try.prog 38 3 1 8 (.int .i64 0) := ⟨Try.underlying38, by decide, rfl, Try.t3, by kernel_rfl, rfl, rfl, rfl⟩
theorem sl57 : SlT Try.prog 57 22 1 24 (.slice none 0 0) := ⟨Try.underlying57, by decide, rfl, Try.t22, by kernel_rfl, rfl, rfl, rfl⟩
theorem sl58 : SlT Try.prog 58 42 7 88 (.agg #[.int .i64 0, .int .i64 0, .int .i64 0, .slice none 0 0, .int .i64 0, .slice none 0 0, .int .i64 0]) := ⟨Try.underlying58, by decide, rfl, Try.t42, by kernel_rfl, rfl, rfl, rfl⟩
theorem sl81 : SlT Try.prog 81 83 2 32 (.agg #[.int .i64 0, .slice none 0 0]) := ⟨Try.underlying81, by decide, rfl, Try.t83, by kernel_rfl, rfl, rfl, rfl⟩
theorem sl88 : SlT Try.prog 88 94 3 40 (.agg #[.int .i64 0, .int .i64 0, .slice none 0 0]) := ⟨Try.underlying88, by decide, rfl, Try.t94, by kernel_rfl, rfl, rfl, rfl⟩
end Go.Proofs.Ytjfnpbeehjhmbaa
