/- Closed facts on the types of this translation, by program. -/
import Derived.Test.YtehakfbfjpolfaaDoorVD
import Derived.Test.YtehakfbfjpolfaaDoorProg
set_option maxRecDepth 100000
set_option linter.all false
namespace Go.Proofs.YtehakfbfjpolfaaDoor
open Go Vw
theorem ag7 : AgT Tryd.prog 7 4 := ⟨fun w => Tryd.isAgg7 w, fun w => Tryd.sizeOf7 w⟩
theorem ag8 : AgT Tryd.prog 8 4 := ⟨fun w => Tryd.isAgg8 w, fun w => Tryd.sizeOf8 w⟩
theorem ag13 : AgT Tryd.prog 13 2 := ⟨fun w => Tryd.isAgg13 w, fun w => Tryd.sizeOf13 w⟩
theorem ag14 : AgT Tryd.prog 14 2 := ⟨fun w => Tryd.isAgg14 w, fun w => Tryd.sizeOf14 w⟩
theorem ag18 : AgT Tryd.prog 18 1 := ⟨fun w => Tryd.isAgg18 w, fun w => Tryd.sizeOf18 w⟩
theorem ag19 : AgT Tryd.prog 19 1 := ⟨fun w => Tryd.isAgg19 w, fun w => Tryd.sizeOf19 w⟩
theorem ag23 : AgT Tryd.prog 23 7 := ⟨fun w => Tryd.isAgg23 w, fun w => Tryd.sizeOf23 w⟩
theorem ag24 : AgT Tryd.prog 24 7 := ⟨fun w => Tryd.isAgg24 w, fun w => Tryd.sizeOf24 w⟩
theorem ag44 : AgT Tryd.prog 44 3 := ⟨fun w => Tryd.isAgg44 w, fun w => Tryd.sizeOf44 w⟩
theorem ag45 : AgT Tryd.prog 45 3 := ⟨fun w => Tryd.isAgg45 w, fun w => Tryd.sizeOf45 w⟩
theorem ag68 : AgT Tryd.prog 68 3 := ⟨fun w => Tryd.isAgg68 w, fun w => Tryd.sizeOf68 w⟩
theorem ag69 : AgT Tryd.prog 69 3 := ⟨fun w => Tryd.isAgg69 w, fun w => Tryd.sizeOf69 w⟩
theorem ag81 : AgT Tryd.prog 81 5 := ⟨fun w => Tryd.isAgg81 w, fun w => Tryd.sizeOf81 w⟩
theorem ag82 : AgT Tryd.prog 82 5 := ⟨fun w => Tryd.isAgg82 w, fun w => Tryd.sizeOf82 w⟩
theorem ag90 : AgT Tryd.prog 90 2 := ⟨fun w => Tryd.isAgg90 w, fun w => Tryd.sizeOf90 w⟩
theorem ag91 : AgT Tryd.prog 91 2 := ⟨fun w => Tryd.isAgg91 w, fun w => Tryd.sizeOf91 w⟩
theorem ag93 : AgT Tryd.prog 93 8 := ⟨fun w => Tryd.isAgg93 w, fun w => Tryd.sizeOf93 w⟩
theorem ag94 : AgT Tryd.prog 94 8 := ⟨fun w => Tryd.isAgg94 w, fun w => Tryd.sizeOf94 w⟩
theorem ag96 : AgT Tryd.prog 96 8 := ⟨fun w => Tryd.isAgg96 w, fun w => Tryd.sizeOf96 w⟩
theorem ag97 : AgT Tryd.prog 97 8 := ⟨fun w => Tryd.isAgg97 w, fun w => Tryd.sizeOf97 w⟩
theorem ag99 : AgT Tryd.prog 99 3 := ⟨fun w => Tryd.isAgg99 w, fun w => Tryd.sizeOf99 w⟩
theorem ag100 : AgT Tryd.prog 100 3 := ⟨fun w => Tryd.isAgg100 w, fun w => Tryd.sizeOf100 w⟩
theorem ag101 : AgT Tryd.prog 101 15 := ⟨fun w => Tryd.isAgg101 w, fun w => Tryd.sizeOf101 w⟩
theorem ag102 : AgT Tryd.prog 102 15 := ⟨fun w => Tryd.isAgg102 w, fun w => Tryd.sizeOf102 w⟩
theorem ag109 : AgT Tryd.prog 109 2 := ⟨fun w => Tryd.isAgg109 w, fun w => Tryd.sizeOf109 w⟩
theorem ag110 : AgT Tryd.prog 110 2 := ⟨fun w => Tryd.isAgg110 w, fun w => Tryd.sizeOf110 w⟩
theorem ag112 : AgT Tryd.prog 112 2 := ⟨fun w => Tryd.isAgg112 w, fun w => Tryd.sizeOf112 w⟩
theorem ag113 : AgT Tryd.prog 113 2 := ⟨fun w => Tryd.isAgg113 w, fun w => Tryd.sizeOf113 w⟩
theorem ag114 : AgT Tryd.prog 114 3 := ⟨fun w => Tryd.isAgg114 w, fun w => Tryd.sizeOf114 w⟩
theorem ag115 : AgT Tryd.prog 115 3 := ⟨fun w => Tryd.isAgg115 w, fun w => Tryd.sizeOf115 w⟩
theorem ag118 : AgT Tryd.prog 118 3 := ⟨fun w => Tryd.isAgg118 w, fun w => Tryd.sizeOf118 w⟩
theorem ag119 : AgT Tryd.prog 119 3 := ⟨fun w => Tryd.isAgg119 w, fun w => Tryd.sizeOf119 w⟩
theorem ag132 : AgT Tryd.prog 132 16 := ⟨fun w => Tryd.isAgg132 w, fun w => Tryd.sizeOf132 w⟩
theorem ag138 : AgT Tryd.prog 138 3 := ⟨fun w => Tryd.isAgg138 w, fun w => Tryd.sizeOf138 w⟩
theorem ag139 : AgT Tryd.prog 139 3 := ⟨fun w => Tryd.isAgg139 w, fun w => Tryd.sizeOf139 w⟩
theorem ag160 : AgT Tryd.prog 160 2 := ⟨fun w => Tryd.isAgg160 w, fun w => Tryd.sizeOf160 w⟩
theorem ag161 : AgT Tryd.prog 161 2 := ⟨fun w => Tryd.isAgg161 w, fun w => Tryd.sizeOf161 w⟩
theorem ag162 : AgT Tryd.prog 162 32 := ⟨fun w => Tryd.isAgg162 w, fun w => Tryd.sizeOf162 w⟩
theorem ag164 : AgT Tryd.prog 164 4 := ⟨fun w => Tryd.isAgg164 w, fun w => Tryd.sizeOf164 w⟩
theorem ag165 : AgT Tryd.prog 165 4 := ⟨fun w => Tryd.isAgg165 w, fun w => Tryd.sizeOf165 w⟩
theorem ag175 : AgT Tryd.prog 175 11 := ⟨fun w => Tryd.isAgg175 w, fun w => Tryd.sizeOf175 w⟩
theorem ag176 : AgT Tryd.prog 176 11 := ⟨fun w => Tryd.isAgg176 w, fun w => Tryd.sizeOf176 w⟩
theorem fo7_0 : FoT Tryd.prog 7 0 0 := ⟨_, _, 0, Tryd.underlying7, rfl, rfl, fun w => Tryd.sizeOf2 w⟩
theorem fo7_1 : FoT Tryd.prog 7 1 1 := ⟨_, _, 0, Tryd.underlying7, rfl, rfl, fun w => Tryd.sizeOf3 w⟩
theorem fo7_2 : FoT Tryd.prog 7 2 2 := ⟨_, _, 0, Tryd.underlying7, rfl, rfl, fun w => Tryd.sizeOf4 w⟩
theorem fo7_3 : FoT Tryd.prog 7 3 3 := ⟨_, _, 0, Tryd.underlying7, rfl, rfl, fun w => Tryd.sizeOf6 w⟩
theorem fo8_0 : FoT Tryd.prog 8 0 0 := ⟨_, _, 0, Tryd.underlying8, rfl, rfl, fun w => Tryd.sizeOf2 w⟩
theorem fo8_1 : FoT Tryd.prog 8 1 1 := ⟨_, _, 0, Tryd.underlying8, rfl, rfl, fun w => Tryd.sizeOf3 w⟩
theorem fo8_2 : FoT Tryd.prog 8 2 2 := ⟨_, _, 0, Tryd.underlying8, rfl, rfl, fun w => Tryd.sizeOf4 w⟩
theorem fo8_3 : FoT Tryd.prog 8 3 3 := ⟨_, _, 0, Tryd.underlying8, rfl, rfl, fun w => Tryd.sizeOf6 w⟩
theorem fo13_0 : FoT Tryd.prog 13 0 0 := ⟨_, _, 0, Tryd.underlying13, rfl, rfl, fun w => Tryd.sizeOf9 w⟩
theorem fo13_1 : FoT Tryd.prog 13 1 1 := ⟨_, _, 0, Tryd.underlying13, rfl, rfl, fun w => Tryd.sizeOf12 w⟩
theorem fo14_0 : FoT Tryd.prog 14 0 0 := ⟨_, _, 0, Tryd.underlying14, rfl, rfl, fun w => Tryd.sizeOf9 w⟩
theorem fo14_1 : FoT Tryd.prog 14 1 1 := ⟨_, _, 0, Tryd.underlying14, rfl, rfl, fun w => Tryd.sizeOf12 w⟩
theorem fo18_0 : FoT Tryd.prog 18 0 0 := ⟨_, _, 0, Tryd.underlying18, rfl, rfl, fun w => Tryd.sizeOf17 w⟩
theorem fo19_0 : FoT Tryd.prog 19 0 0 := ⟨_, _, 0, Tryd.underlying19, rfl, rfl, fun w => Tryd.sizeOf17 w⟩
theorem fo23_0 : FoT Tryd.prog 23 0 0 := ⟨_, _, 0, Tryd.underlying23, rfl, rfl, fun w => Tryd.sizeOf3 w⟩
theorem fo23_1 : FoT Tryd.prog 23 1 1 := ⟨_, _, 0, Tryd.underlying23, rfl, rfl, fun w => Tryd.sizeOf3 w⟩
theorem fo23_2 : FoT Tryd.prog 23 2 2 := ⟨_, _, 0, Tryd.underlying23, rfl, rfl, fun w => Tryd.sizeOf3 w⟩
theorem fo23_3 : FoT Tryd.prog 23 3 3 := ⟨_, _, 0, Tryd.underlying23, rfl, rfl, fun w => Tryd.sizeOf3 w⟩
theorem fo23_4 : FoT Tryd.prog 23 4 4 := ⟨_, _, 0, Tryd.underlying23, rfl, rfl, fun w => Tryd.sizeOf3 w⟩
theorem fo23_5 : FoT Tryd.prog 23 5 5 := ⟨_, _, 0, Tryd.underlying23, rfl, rfl, fun w => Tryd.sizeOf3 w⟩
theorem fo23_6 : FoT Tryd.prog 23 6 6 := ⟨_, _, 0, Tryd.underlying23, rfl, rfl, fun w => Tryd.sizeOf22 w⟩
theorem fo24_0 : FoT Tryd.prog 24 0 0 := ⟨_, _, 0, Tryd.underlying24, rfl, rfl, fun w => Tryd.sizeOf3 w⟩
theorem fo24_1 : FoT Tryd.prog 24 1 1 := ⟨_, _, 0, Tryd.underlying24, rfl, rfl, fun w => Tryd.sizeOf3 w⟩
theorem fo24_2 : FoT Tryd.prog 24 2 2 := ⟨_, _, 0, Tryd.underlying24, rfl, rfl, fun w => Tryd.sizeOf3 w⟩
theorem fo24_3 : FoT Tryd.prog 24 3 3 := ⟨_, _, 0, Tryd.underlying24, rfl, rfl, fun w => Tryd.sizeOf3 w⟩
theorem fo24_4 : FoT Tryd.prog 24 4 4 := ⟨_, _, 0, Tryd.underlying24, rfl, rfl, fun w => Tryd.sizeOf3 w⟩
theorem fo24_5 : FoT Tryd.prog 24 5 5 := ⟨_, _, 0, Tryd.underlying24, rfl, rfl, fun w => Tryd.sizeOf3 w⟩
theorem fo24_6 : FoT Tryd.prog 24 6 6 := ⟨_, _, 0, Tryd.underlying24, rfl, rfl, fun w => Tryd.sizeOf22 w⟩
theorem fo44_0 : FoT Tryd.prog 44 0 0 := ⟨_, _, 0, Tryd.underlying44, rfl, rfl, fun w => Tryd.sizeOf3 w⟩
theorem fo44_1 : FoT Tryd.prog 44 1 1 := ⟨_, _, 0, Tryd.underlying44, rfl, rfl, fun w => Tryd.sizeOf3 w⟩
theorem fo44_2 : FoT Tryd.prog 44 2 2 := ⟨_, _, 0, Tryd.underlying44, rfl, rfl, fun w => Tryd.sizeOf3 w⟩
theorem fo45_0 : FoT Tryd.prog 45 0 0 := ⟨_, _, 0, Tryd.underlying45, rfl, rfl, fun w => Tryd.sizeOf3 w⟩
theorem fo45_1 : FoT Tryd.prog 45 1 1 := ⟨_, _, 0, Tryd.underlying45, rfl, rfl, fun w => Tryd.sizeOf3 w⟩
theorem fo45_2 : FoT Tryd.prog 45 2 2 := ⟨_, _, 0, Tryd.underlying45, rfl, rfl, fun w => Tryd.sizeOf3 w⟩
theorem fo68_0 : FoT Tryd.prog 68 0 0 := ⟨_, _, 0, Tryd.underlying68, rfl, rfl, fun w => Tryd.sizeOf3 w⟩
theorem fo68_1 : FoT Tryd.prog 68 1 1 := ⟨_, _, 0, Tryd.underlying68, rfl, rfl, fun w => Tryd.sizeOf67 w⟩
theorem fo68_2 : FoT Tryd.prog 68 2 2 := ⟨_, _, 0, Tryd.underlying68, rfl, rfl, fun w => Tryd.sizeOf3 w⟩
theorem fo69_0 : FoT Tryd.prog 69 0 0 := ⟨_, _, 0, Tryd.underlying69, rfl, rfl, fun w => Tryd.sizeOf3 w⟩
theorem fo69_1 : FoT Tryd.prog 69 1 1 := ⟨_, _, 0, Tryd.underlying69, rfl, rfl, fun w => Tryd.sizeOf67 w⟩
theorem fo69_2 : FoT Tryd.prog 69 2 2 := ⟨_, _, 0, Tryd.underlying69, rfl, rfl, fun w => Tryd.sizeOf3 w⟩
theorem fo81_0 : FoT Tryd.prog 81 0 0 := ⟨_, _, 2, Tryd.underlying81, rfl, rfl, fun w => Tryd.sizeOf45 w⟩
theorem fo81_1 : FoT Tryd.prog 81 1 3 := ⟨_, _, 0, Tryd.underlying81, rfl, rfl, fun w => Tryd.sizeOf25 w⟩
theorem fo81_2 : FoT Tryd.prog 81 2 4 := ⟨_, _, 0, Tryd.underlying81, rfl, rfl, fun w => Tryd.sizeOf80 w⟩
theorem fo82_0 : FoT Tryd.prog 82 0 0 := ⟨_, _, 2, Tryd.underlying82, rfl, rfl, fun w => Tryd.sizeOf45 w⟩
theorem fo82_1 : FoT Tryd.prog 82 1 3 := ⟨_, _, 0, Tryd.underlying82, rfl, rfl, fun w => Tryd.sizeOf25 w⟩
theorem fo82_2 : FoT Tryd.prog 82 2 4 := ⟨_, _, 0, Tryd.underlying82, rfl, rfl, fun w => Tryd.sizeOf80 w⟩
theorem fo90_0 : FoT Tryd.prog 90 0 0 := ⟨_, _, 0, Tryd.underlying90, rfl, rfl, fun w => Tryd.sizeOf3 w⟩
theorem fo90_1 : FoT Tryd.prog 90 1 1 := ⟨_, _, 0, Tryd.underlying90, rfl, rfl, fun w => Tryd.sizeOf3 w⟩
theorem fo91_0 : FoT Tryd.prog 91 0 0 := ⟨_, _, 0, Tryd.underlying91, rfl, rfl, fun w => Tryd.sizeOf3 w⟩
theorem fo91_1 : FoT Tryd.prog 91 1 1 := ⟨_, _, 0, Tryd.underlying91, rfl, rfl, fun w => Tryd.sizeOf3 w⟩
theorem fo93_0 : FoT Tryd.prog 93 0 0 := ⟨_, _, 0, Tryd.underlying93, rfl, rfl, fun w => Tryd.sizeOf3 w⟩
theorem fo93_1 : FoT Tryd.prog 93 1 1 := ⟨_, _, 0, Tryd.underlying93, rfl, rfl, fun w => Tryd.sizeOf25 w⟩
theorem fo93_2 : FoT Tryd.prog 93 2 2 := ⟨_, _, 0, Tryd.underlying93, rfl, rfl, fun w => Tryd.sizeOf25 w⟩
theorem fo93_3 : FoT Tryd.prog 93 3 3 := ⟨_, _, 0, Tryd.underlying93, rfl, rfl, fun w => Tryd.sizeOf92 w⟩
theorem fo93_4 : FoT Tryd.prog 93 4 4 := ⟨_, _, 0, Tryd.underlying93, rfl, rfl, fun w => Tryd.sizeOf67 w⟩
theorem fo93_5 : FoT Tryd.prog 93 5 5 := ⟨_, _, 0, Tryd.underlying93, rfl, rfl, fun w => Tryd.sizeOf3 w⟩
theorem fo93_6 : FoT Tryd.prog 93 6 6 := ⟨_, _, 0, Tryd.underlying93, rfl, rfl, fun w => Tryd.sizeOf3 w⟩
theorem fo93_7 : FoT Tryd.prog 93 7 7 := ⟨_, _, 0, Tryd.underlying93, rfl, rfl, fun w => Tryd.sizeOf4 w⟩
theorem fo94_0 : FoT Tryd.prog 94 0 0 := ⟨_, _, 0, Tryd.underlying94, rfl, rfl, fun w => Tryd.sizeOf3 w⟩
theorem fo94_1 : FoT Tryd.prog 94 1 1 := ⟨_, _, 0, Tryd.underlying94, rfl, rfl, fun w => Tryd.sizeOf25 w⟩
theorem fo94_2 : FoT Tryd.prog 94 2 2 := ⟨_, _, 0, Tryd.underlying94, rfl, rfl, fun w => Tryd.sizeOf25 w⟩
theorem fo94_3 : FoT Tryd.prog 94 3 3 := ⟨_, _, 0, Tryd.underlying94, rfl, rfl, fun w => Tryd.sizeOf92 w⟩
theorem fo94_4 : FoT Tryd.prog 94 4 4 := ⟨_, _, 0, Tryd.underlying94, rfl, rfl, fun w => Tryd.sizeOf67 w⟩
theorem fo94_5 : FoT Tryd.prog 94 5 5 := ⟨_, _, 0, Tryd.underlying94, rfl, rfl, fun w => Tryd.sizeOf3 w⟩
theorem fo94_6 : FoT Tryd.prog 94 6 6 := ⟨_, _, 0, Tryd.underlying94, rfl, rfl, fun w => Tryd.sizeOf3 w⟩
theorem fo94_7 : FoT Tryd.prog 94 7 7 := ⟨_, _, 0, Tryd.underlying94, rfl, rfl, fun w => Tryd.sizeOf4 w⟩
theorem fo96_0 : FoT Tryd.prog 96 0 0 := ⟨_, _, 0, Tryd.underlying96, rfl, rfl, fun w => Tryd.sizeOf3 w⟩
theorem fo96_1 : FoT Tryd.prog 96 1 1 := ⟨_, _, 0, Tryd.underlying96, rfl, rfl, fun w => Tryd.sizeOf25 w⟩
theorem fo96_2 : FoT Tryd.prog 96 2 2 := ⟨_, _, 0, Tryd.underlying96, rfl, rfl, fun w => Tryd.sizeOf25 w⟩
theorem fo96_3 : FoT Tryd.prog 96 3 3 := ⟨_, _, 0, Tryd.underlying96, rfl, rfl, fun w => Tryd.sizeOf95 w⟩
theorem fo96_4 : FoT Tryd.prog 96 4 4 := ⟨_, _, 0, Tryd.underlying96, rfl, rfl, fun w => Tryd.sizeOf67 w⟩
theorem fo96_5 : FoT Tryd.prog 96 5 5 := ⟨_, _, 0, Tryd.underlying96, rfl, rfl, fun w => Tryd.sizeOf3 w⟩
theorem fo96_6 : FoT Tryd.prog 96 6 6 := ⟨_, _, 0, Tryd.underlying96, rfl, rfl, fun w => Tryd.sizeOf3 w⟩
theorem fo96_7 : FoT Tryd.prog 96 7 7 := ⟨_, _, 0, Tryd.underlying96, rfl, rfl, fun w => Tryd.sizeOf4 w⟩
theorem fo97_0 : FoT Tryd.prog 97 0 0 := ⟨_, _, 0, Tryd.underlying97, rfl, rfl, fun w => Tryd.sizeOf3 w⟩
theorem fo97_1 : FoT Tryd.prog 97 1 1 := ⟨_, _, 0, Tryd.underlying97, rfl, rfl, fun w => Tryd.sizeOf25 w⟩
theorem fo97_2 : FoT Tryd.prog 97 2 2 := ⟨_, _, 0, Tryd.underlying97, rfl, rfl, fun w => Tryd.sizeOf25 w⟩
theorem fo97_3 : FoT Tryd.prog 97 3 3 := ⟨_, _, 0, Tryd.underlying97, rfl, rfl, fun w => Tryd.sizeOf95 w⟩
theorem fo97_4 : FoT Tryd.prog 97 4 4 := ⟨_, _, 0, Tryd.underlying97, rfl, rfl, fun w => Tryd.sizeOf67 w⟩
theorem fo97_5 : FoT Tryd.prog 97 5 5 := ⟨_, _, 0, Tryd.underlying97, rfl, rfl, fun w => Tryd.sizeOf3 w⟩
theorem fo97_6 : FoT Tryd.prog 97 6 6 := ⟨_, _, 0, Tryd.underlying97, rfl, rfl, fun w => Tryd.sizeOf3 w⟩
theorem fo97_7 : FoT Tryd.prog 97 7 7 := ⟨_, _, 0, Tryd.underlying97, rfl, rfl, fun w => Tryd.sizeOf4 w⟩
theorem fo99_0 : FoT Tryd.prog 99 0 0 := ⟨_, _, 0, Tryd.underlying99, rfl, rfl, fun w => Tryd.sizeOf3 w⟩
theorem fo99_1 : FoT Tryd.prog 99 1 1 := ⟨_, _, 0, Tryd.underlying99, rfl, rfl, fun w => Tryd.sizeOf3 w⟩
theorem fo99_2 : FoT Tryd.prog 99 2 2 := ⟨_, _, 0, Tryd.underlying99, rfl, rfl, fun w => Tryd.sizeOf3 w⟩
theorem fo100_0 : FoT Tryd.prog 100 0 0 := ⟨_, _, 0, Tryd.underlying100, rfl, rfl, fun w => Tryd.sizeOf3 w⟩
theorem fo100_1 : FoT Tryd.prog 100 1 1 := ⟨_, _, 0, Tryd.underlying100, rfl, rfl, fun w => Tryd.sizeOf3 w⟩
theorem fo100_2 : FoT Tryd.prog 100 2 2 := ⟨_, _, 0, Tryd.underlying100, rfl, rfl, fun w => Tryd.sizeOf3 w⟩
theorem fo101_0 : FoT Tryd.prog 101 0 0 := ⟨_, _, 0, Tryd.underlying101, rfl, rfl, fun w => Tryd.sizeOf49 w⟩
theorem fo101_1 : FoT Tryd.prog 101 1 1 := ⟨_, _, 0, Tryd.underlying101, rfl, rfl, fun w => Tryd.sizeOf3 w⟩
theorem fo101_2 : FoT Tryd.prog 101 2 2 := ⟨_, _, 0, Tryd.underlying101, rfl, rfl, fun w => Tryd.sizeOf3 w⟩
theorem fo101_3 : FoT Tryd.prog 101 3 3 := ⟨_, _, 0, Tryd.underlying101, rfl, rfl, fun w => Tryd.sizeOf80 w⟩
theorem fo101_4 : FoT Tryd.prog 101 4 4 := ⟨_, _, 6, Tryd.underlying101, rfl, rfl, fun w => Tryd.sizeOf24 w⟩
theorem fo101_5 : FoT Tryd.prog 101 5 11 := ⟨_, _, 0, Tryd.underlying101, rfl, rfl, fun w => Tryd.sizeOf25 w⟩
theorem fo101_6 : FoT Tryd.prog 101 6 12 := ⟨_, _, 2, Tryd.underlying101, rfl, rfl, fun w => Tryd.sizeOf100 w⟩
theorem fo102_0 : FoT Tryd.prog 102 0 0 := ⟨_, _, 0, Tryd.underlying102, rfl, rfl, fun w => Tryd.sizeOf49 w⟩
theorem fo102_1 : FoT Tryd.prog 102 1 1 := ⟨_, _, 0, Tryd.underlying102, rfl, rfl, fun w => Tryd.sizeOf3 w⟩
theorem fo102_2 : FoT Tryd.prog 102 2 2 := ⟨_, _, 0, Tryd.underlying102, rfl, rfl, fun w => Tryd.sizeOf3 w⟩
theorem fo102_3 : FoT Tryd.prog 102 3 3 := ⟨_, _, 0, Tryd.underlying102, rfl, rfl, fun w => Tryd.sizeOf80 w⟩
theorem fo102_4 : FoT Tryd.prog 102 4 4 := ⟨_, _, 6, Tryd.underlying102, rfl, rfl, fun w => Tryd.sizeOf24 w⟩
theorem fo102_5 : FoT Tryd.prog 102 5 11 := ⟨_, _, 0, Tryd.underlying102, rfl, rfl, fun w => Tryd.sizeOf25 w⟩
theorem fo102_6 : FoT Tryd.prog 102 6 12 := ⟨_, _, 2, Tryd.underlying102, rfl, rfl, fun w => Tryd.sizeOf100 w⟩
theorem fo109_0 : FoT Tryd.prog 109 0 0 := ⟨_, _, 0, Tryd.underlying109, rfl, rfl, fun w => Tryd.sizeOf3 w⟩
theorem fo109_1 : FoT Tryd.prog 109 1 1 := ⟨_, _, 0, Tryd.underlying109, rfl, rfl, fun w => Tryd.sizeOf25 w⟩
theorem fo110_0 : FoT Tryd.prog 110 0 0 := ⟨_, _, 0, Tryd.underlying110, rfl, rfl, fun w => Tryd.sizeOf3 w⟩
theorem fo110_1 : FoT Tryd.prog 110 1 1 := ⟨_, _, 0, Tryd.underlying110, rfl, rfl, fun w => Tryd.sizeOf25 w⟩
theorem fo112_0 : FoT Tryd.prog 112 0 0 := ⟨_, _, 0, Tryd.underlying112, rfl, rfl, fun w => Tryd.sizeOf3 w⟩
theorem fo112_1 : FoT Tryd.prog 112 1 1 := ⟨_, _, 0, Tryd.underlying112, rfl, rfl, fun w => Tryd.sizeOf25 w⟩
theorem fo113_0 : FoT Tryd.prog 113 0 0 := ⟨_, _, 0, Tryd.underlying113, rfl, rfl, fun w => Tryd.sizeOf3 w⟩
theorem fo113_1 : FoT Tryd.prog 113 1 1 := ⟨_, _, 0, Tryd.underlying113, rfl, rfl, fun w => Tryd.sizeOf25 w⟩
theorem fo114_0 : FoT Tryd.prog 114 0 0 := ⟨_, _, 0, Tryd.underlying114, rfl, rfl, fun w => Tryd.sizeOf25 w⟩
theorem fo114_1 : FoT Tryd.prog 114 1 1 := ⟨_, _, 0, Tryd.underlying114, rfl, rfl, fun w => Tryd.sizeOf3 w⟩
theorem fo114_2 : FoT Tryd.prog 114 2 2 := ⟨_, _, 0, Tryd.underlying114, rfl, rfl, fun w => Tryd.sizeOf26 w⟩
theorem fo115_0 : FoT Tryd.prog 115 0 0 := ⟨_, _, 0, Tryd.underlying115, rfl, rfl, fun w => Tryd.sizeOf25 w⟩
theorem fo115_1 : FoT Tryd.prog 115 1 1 := ⟨_, _, 0, Tryd.underlying115, rfl, rfl, fun w => Tryd.sizeOf3 w⟩
theorem fo115_2 : FoT Tryd.prog 115 2 2 := ⟨_, _, 0, Tryd.underlying115, rfl, rfl, fun w => Tryd.sizeOf26 w⟩
theorem fo118_0 : FoT Tryd.prog 118 0 0 := ⟨_, _, 0, Tryd.underlying118, rfl, rfl, fun w => Tryd.sizeOf25 w⟩
theorem fo118_1 : FoT Tryd.prog 118 1 1 := ⟨_, _, 0, Tryd.underlying118, rfl, rfl, fun w => Tryd.sizeOf3 w⟩
theorem fo118_2 : FoT Tryd.prog 118 2 2 := ⟨_, _, 0, Tryd.underlying118, rfl, rfl, fun w => Tryd.sizeOf26 w⟩
theorem fo119_0 : FoT Tryd.prog 119 0 0 := ⟨_, _, 0, Tryd.underlying119, rfl, rfl, fun w => Tryd.sizeOf25 w⟩
theorem fo119_1 : FoT Tryd.prog 119 1 1 := ⟨_, _, 0, Tryd.underlying119, rfl, rfl, fun w => Tryd.sizeOf3 w⟩
theorem fo119_2 : FoT Tryd.prog 119 2 2 := ⟨_, _, 0, Tryd.underlying119, rfl, rfl, fun w => Tryd.sizeOf26 w⟩
theorem fo138_0 : FoT Tryd.prog 138 0 0 := ⟨_, _, 0, Tryd.underlying138, rfl, rfl, fun w => Tryd.sizeOf3 w⟩
theorem fo138_1 : FoT Tryd.prog 138 1 1 := ⟨_, _, 0, Tryd.underlying138, rfl, rfl, fun w => Tryd.sizeOf3 w⟩
theorem fo138_2 : FoT Tryd.prog 138 2 2 := ⟨_, _, 0, Tryd.underlying138, rfl, rfl, fun w => Tryd.sizeOf25 w⟩
theorem fo139_0 : FoT Tryd.prog 139 0 0 := ⟨_, _, 0, Tryd.underlying139, rfl, rfl, fun w => Tryd.sizeOf3 w⟩
theorem fo139_1 : FoT Tryd.prog 139 1 1 := ⟨_, _, 0, Tryd.underlying139, rfl, rfl, fun w => Tryd.sizeOf3 w⟩
theorem fo139_2 : FoT Tryd.prog 139 2 2 := ⟨_, _, 0, Tryd.underlying139, rfl, rfl, fun w => Tryd.sizeOf25 w⟩
theorem fo160_0 : FoT Tryd.prog 160 0 0 := ⟨_, _, 0, Tryd.underlying160, rfl, rfl, fun w => Tryd.sizeOf5 w⟩
theorem fo160_1 : FoT Tryd.prog 160 1 1 := ⟨_, _, 0, Tryd.underlying160, rfl, rfl, fun w => Tryd.sizeOf5 w⟩
theorem fo161_0 : FoT Tryd.prog 161 0 0 := ⟨_, _, 0, Tryd.underlying161, rfl, rfl, fun w => Tryd.sizeOf5 w⟩
theorem fo161_1 : FoT Tryd.prog 161 1 1 := ⟨_, _, 0, Tryd.underlying161, rfl, rfl, fun w => Tryd.sizeOf5 w⟩
theorem fo164_0 : FoT Tryd.prog 164 0 0 := ⟨_, _, 0, Tryd.underlying164, rfl, rfl, fun w => Tryd.sizeOf17 w⟩
theorem fo164_1 : FoT Tryd.prog 164 1 1 := ⟨_, _, 0, Tryd.underlying164, rfl, rfl, fun w => Tryd.sizeOf17 w⟩
theorem fo164_2 : FoT Tryd.prog 164 2 2 := ⟨_, _, 0, Tryd.underlying164, rfl, rfl, fun w => Tryd.sizeOf17 w⟩
theorem fo164_3 : FoT Tryd.prog 164 3 3 := ⟨_, _, 0, Tryd.underlying164, rfl, rfl, fun w => Tryd.sizeOf9 w⟩
theorem fo165_0 : FoT Tryd.prog 165 0 0 := ⟨_, _, 0, Tryd.underlying165, rfl, rfl, fun w => Tryd.sizeOf17 w⟩
theorem fo165_1 : FoT Tryd.prog 165 1 1 := ⟨_, _, 0, Tryd.underlying165, rfl, rfl, fun w => Tryd.sizeOf17 w⟩
theorem fo165_2 : FoT Tryd.prog 165 2 2 := ⟨_, _, 0, Tryd.underlying165, rfl, rfl, fun w => Tryd.sizeOf17 w⟩
theorem fo165_3 : FoT Tryd.prog 165 3 3 := ⟨_, _, 0, Tryd.underlying165, rfl, rfl, fun w => Tryd.sizeOf9 w⟩
theorem fo175_0 : FoT Tryd.prog 175 0 0 := ⟨_, _, 0, Tryd.underlying175, rfl, rfl, fun w => Tryd.sizeOf12 w⟩
theorem fo175_1 : FoT Tryd.prog 175 1 1 := ⟨_, _, 0, Tryd.underlying175, rfl, rfl, fun w => Tryd.sizeOf12 w⟩
theorem fo175_2 : FoT Tryd.prog 175 2 2 := ⟨_, _, 0, Tryd.underlying175, rfl, rfl, fun w => Tryd.sizeOf22 w⟩
theorem fo175_3 : FoT Tryd.prog 175 3 3 := ⟨_, _, 0, Tryd.underlying175, rfl, rfl, fun w => Tryd.sizeOf169 w⟩
theorem fo175_4 : FoT Tryd.prog 175 4 4 := ⟨_, _, 0, Tryd.underlying175, rfl, rfl, fun w => Tryd.sizeOf5 w⟩
theorem fo175_5 : FoT Tryd.prog 175 5 5 := ⟨_, _, 0, Tryd.underlying175, rfl, rfl, fun w => Tryd.sizeOf5 w⟩
theorem fo175_6 : FoT Tryd.prog 175 6 6 := ⟨_, _, 0, Tryd.underlying175, rfl, rfl, fun w => Tryd.sizeOf170 w⟩
theorem fo175_7 : FoT Tryd.prog 175 7 7 := ⟨_, _, 0, Tryd.underlying175, rfl, rfl, fun w => Tryd.sizeOf171 w⟩
theorem fo175_8 : FoT Tryd.prog 175 8 8 := ⟨_, _, 0, Tryd.underlying175, rfl, rfl, fun w => Tryd.sizeOf172 w⟩
theorem fo175_9 : FoT Tryd.prog 175 9 9 := ⟨_, _, 0, Tryd.underlying175, rfl, rfl, fun w => Tryd.sizeOf173 w⟩
theorem fo175_10 : FoT Tryd.prog 175 10 10 := ⟨_, _, 0, Tryd.underlying175, rfl, rfl, fun w => Tryd.sizeOf174 w⟩
theorem fo176_0 : FoT Tryd.prog 176 0 0 := ⟨_, _, 0, Tryd.underlying176, rfl, rfl, fun w => Tryd.sizeOf12 w⟩
theorem fo176_1 : FoT Tryd.prog 176 1 1 := ⟨_, _, 0, Tryd.underlying176, rfl, rfl, fun w => Tryd.sizeOf12 w⟩
theorem fo176_2 : FoT Tryd.prog 176 2 2 := ⟨_, _, 0, Tryd.underlying176, rfl, rfl, fun w => Tryd.sizeOf22 w⟩
theorem fo176_3 : FoT Tryd.prog 176 3 3 := ⟨_, _, 0, Tryd.underlying176, rfl, rfl, fun w => Tryd.sizeOf169 w⟩
theorem fo176_4 : FoT Tryd.prog 176 4 4 := ⟨_, _, 0, Tryd.underlying176, rfl, rfl, fun w => Tryd.sizeOf5 w⟩
theorem fo176_5 : FoT Tryd.prog 176 5 5 := ⟨_, _, 0, Tryd.underlying176, rfl, rfl, fun w => Tryd.sizeOf5 w⟩
theorem fo176_6 : FoT Tryd.prog 176 6 6 := ⟨_, _, 0, Tryd.underlying176, rfl, rfl, fun w => Tryd.sizeOf170 w⟩
theorem fo176_7 : FoT Tryd.prog 176 7 7 := ⟨_, _, 0, Tryd.underlying176, rfl, rfl, fun w => Tryd.sizeOf171 w⟩
theorem fo176_8 : FoT Tryd.prog 176 8 8 := ⟨_, _, 0, Tryd.underlying176, rfl, rfl, fun w => Tryd.sizeOf172 w⟩
theorem fo176_9 : FoT Tryd.prog 176 9 9 := ⟨_, _, 0, Tryd.underlying176, rfl, rfl, fun w => Tryd.sizeOf173 w⟩
theorem fo176_10 : FoT Tryd.prog 176 10 10 := ⟨_, _, 0, Tryd.underlying176, rfl, rfl, fun w => Tryd.sizeOf174 w⟩
theorem sc1 : ScT Tryd.prog 1 := ⟨fun w => Tryd.isAgg1 w, fun w => Tryd.sizeOf1 w⟩
theorem sc2 : ScT Tryd.prog 2 := ⟨fun w => Tryd.isAgg2 w, fun w => Tryd.sizeOf2 w⟩
theorem sc3 : ScT Tryd.prog 3 := ⟨fun w => Tryd.isAgg3 w, fun w => Tryd.sizeOf3 w⟩
theorem sc4 : ScT Tryd.prog 4 := ⟨fun w => Tryd.isAgg4 w, fun w => Tryd.sizeOf4 w⟩
theorem sc5 : ScT Tryd.prog 5 := ⟨fun w => Tryd.isAgg5 w, fun w => Tryd.sizeOf5 w⟩
theorem sc6 : ScT Tryd.prog 6 := ⟨fun w => Tryd.isAgg6 w, fun w => Tryd.sizeOf6 w⟩
theorem sc9 : ScT Tryd.prog 9 := ⟨fun w => Tryd.isAgg9 w, fun w => Tryd.sizeOf9 w⟩
theorem sc10 : ScT Tryd.prog 10 := ⟨fun w => Tryd.isAgg10 w, fun w => Tryd.sizeOf10 w⟩
theorem sc11 : ScT Tryd.prog 11 := ⟨fun w => Tryd.isAgg11 w, fun w => Tryd.sizeOf11 w⟩
theorem sc12 : ScT Tryd.prog 12 := ⟨fun w => Tryd.isAgg12 w, fun w => Tryd.sizeOf12 w⟩
theorem sc15 : ScT Tryd.prog 15 := ⟨fun w => Tryd.isAgg15 w, fun w => Tryd.sizeOf15 w⟩
theorem sc16 : ScT Tryd.prog 16 := ⟨fun w => Tryd.isAgg16 w, fun w => Tryd.sizeOf16 w⟩
theorem sc17 : ScT Tryd.prog 17 := ⟨fun w => Tryd.isAgg17 w, fun w => Tryd.sizeOf17 w⟩
theorem sc20 : ScT Tryd.prog 20 := ⟨fun w => Tryd.isAgg20 w, fun w => Tryd.sizeOf20 w⟩
theorem sc21 : ScT Tryd.prog 21 := ⟨fun w => Tryd.isAgg21 w, fun w => Tryd.sizeOf21 w⟩
theorem sc22 : ScT Tryd.prog 22 := ⟨fun w => Tryd.isAgg22 w, fun w => Tryd.sizeOf22 w⟩
theorem sc25 : ScT Tryd.prog 25 := ⟨fun w => Tryd.isAgg25 w, fun w => Tryd.sizeOf25 w⟩
theorem sc26 : ScT Tryd.prog 26 := ⟨fun w => Tryd.isAgg26 w, fun w => Tryd.sizeOf26 w⟩
theorem sc28 : ScT Tryd.prog 28 := ⟨fun w => Tryd.isAgg28 w, fun w => Tryd.sizeOf28 w⟩
theorem sc30 : ScT Tryd.prog 30 := ⟨fun w => Tryd.isAgg30 w, fun w => Tryd.sizeOf30 w⟩
theorem sc31 : ScT Tryd.prog 31 := ⟨fun w => Tryd.isAgg31 w, fun w => Tryd.sizeOf31 w⟩
theorem sc32 : ScT Tryd.prog 32 := ⟨fun w => Tryd.isAgg32 w, fun w => Tryd.sizeOf32 w⟩
theorem sc33 : ScT Tryd.prog 33 := ⟨fun w => Tryd.isAgg33 w, fun w => Tryd.sizeOf33 w⟩
theorem sc34 : ScT Tryd.prog 34 := ⟨fun w => Tryd.isAgg34 w, fun w => Tryd.sizeOf34 w⟩
theorem sc35 : ScT Tryd.prog 35 := ⟨fun w => Tryd.isAgg35 w, fun w => Tryd.sizeOf35 w⟩
theorem sc36 : ScT Tryd.prog 36 := ⟨fun w => Tryd.isAgg36 w, fun w => Tryd.sizeOf36 w⟩
theorem sc38 : ScT Tryd.prog 38 := ⟨fun w => Tryd.isAgg38 w, fun w => Tryd.sizeOf38 w⟩
theorem sc40 : ScT Tryd.prog 40 := ⟨fun w => Tryd.isAgg40 w, fun w => Tryd.sizeOf40 w⟩
theorem sc41 : ScT Tryd.prog 41 := ⟨fun w => Tryd.isAgg41 w, fun w => Tryd.sizeOf41 w⟩
theorem sc42 : ScT Tryd.prog 42 := ⟨fun w => Tryd.isAgg42 w, fun w => Tryd.sizeOf42 w⟩
theorem sc43 : ScT Tryd.prog 43 := ⟨fun w => Tryd.isAgg43 w, fun w => Tryd.sizeOf43 w⟩
theorem sc47 : ScT Tryd.prog 47 := ⟨fun w => Tryd.isAgg47 w, fun w => Tryd.sizeOf47 w⟩
theorem sc48 : ScT Tryd.prog 48 := ⟨fun w => Tryd.isAgg48 w, fun w => Tryd.sizeOf48 w⟩
theorem sc49 : ScT Tryd.prog 49 := ⟨fun w => Tryd.isAgg49 w, fun w => Tryd.sizeOf49 w⟩
theorem sc51 : ScT Tryd.prog 51 := ⟨fun w => Tryd.isAgg51 w, fun w => Tryd.sizeOf51 w⟩
theorem sc52 : ScT Tryd.prog 52 := ⟨fun w => Tryd.isAgg52 w, fun w => Tryd.sizeOf52 w⟩
theorem sc54 : ScT Tryd.prog 54 := ⟨fun w => Tryd.isAgg54 w, fun w => Tryd.sizeOf54 w⟩
theorem sc55 : ScT Tryd.prog 55 := ⟨fun w => Tryd.isAgg55 w, fun w => Tryd.sizeOf55 w⟩
theorem sc57 : ScT Tryd.prog 57 := ⟨fun w => Tryd.isAgg57 w, fun w => Tryd.sizeOf57 w⟩
theorem sc59 : ScT Tryd.prog 59 := ⟨fun w => Tryd.isAgg59 w, fun w => Tryd.sizeOf59 w⟩
theorem sc60 : ScT Tryd.prog 60 := ⟨fun w => Tryd.isAgg60 w, fun w => Tryd.sizeOf60 w⟩
theorem sc61 : ScT Tryd.prog 61 := ⟨fun w => Tryd.isAgg61 w, fun w => Tryd.sizeOf61 w⟩
theorem sc62 : ScT Tryd.prog 62 := ⟨fun w => Tryd.isAgg62 w, fun w => Tryd.sizeOf62 w⟩
theorem sc63 : ScT Tryd.prog 63 := ⟨fun w => Tryd.isAgg63 w, fun w => Tryd.sizeOf63 w⟩
theorem sc64 : ScT Tryd.prog 64 := ⟨fun w => Tryd.isAgg64 w, fun w => Tryd.sizeOf64 w⟩
theorem sc65 : ScT Tryd.prog 65 := ⟨fun w => Tryd.isAgg65 w, fun w => Tryd.sizeOf65 w⟩
theorem sc66 : ScT Tryd.prog 66 := ⟨fun w => Tryd.isAgg66 w, fun w => Tryd.sizeOf66 w⟩
theorem sc67 : ScT Tryd.prog 67 := ⟨fun w => Tryd.isAgg67 w, fun w => Tryd.sizeOf67 w⟩
theorem sc70 : ScT Tryd.prog 70 := ⟨fun w => Tryd.isAgg70 w, fun w => Tryd.sizeOf70 w⟩
theorem sc71 : ScT Tryd.prog 71 := ⟨fun w => Tryd.isAgg71 w, fun w => Tryd.sizeOf71 w⟩
theorem sc72 : ScT Tryd.prog 72 := ⟨fun w => Tryd.isAgg72 w, fun w => Tryd.sizeOf72 w⟩
theorem sc73 : ScT Tryd.prog 73 := ⟨fun w => Tryd.isAgg73 w, fun w => Tryd.sizeOf73 w⟩
theorem sc74 : ScT Tryd.prog 74 := ⟨fun w => Tryd.isAgg74 w, fun w => Tryd.sizeOf74 w⟩
theorem sc75 : ScT Tryd.prog 75 := ⟨fun w => Tryd.isAgg75 w, fun w => Tryd.sizeOf75 w⟩
theorem sc76 : ScT Tryd.prog 76 := ⟨fun w => Tryd.isAgg76 w, fun w => Tryd.sizeOf76 w⟩
theorem sc77 : ScT Tryd.prog 77 := ⟨fun w => Tryd.isAgg77 w, fun w => Tryd.sizeOf77 w⟩
theorem sc78 : ScT Tryd.prog 78 := ⟨fun w => Tryd.isAgg78 w, fun w => Tryd.sizeOf78 w⟩
theorem sc79 : ScT Tryd.prog 79 := ⟨fun w => Tryd.isAgg79 w, fun w => Tryd.sizeOf79 w⟩
theorem sc80 : ScT Tryd.prog 80 := ⟨fun w => Tryd.isAgg80 w, fun w => Tryd.sizeOf80 w⟩
theorem sc83 : ScT Tryd.prog 83 := ⟨fun w => Tryd.isAgg83 w, fun w => Tryd.sizeOf83 w⟩
theorem sc85 : ScT Tryd.prog 85 := ⟨fun w => Tryd.isAgg85 w, fun w => Tryd.sizeOf85 w⟩
theorem sc86 : ScT Tryd.prog 86 := ⟨fun w => Tryd.isAgg86 w, fun w => Tryd.sizeOf86 w⟩
theorem sc87 : ScT Tryd.prog 87 := ⟨fun w => Tryd.isAgg87 w, fun w => Tryd.sizeOf87 w⟩
theorem sc89 : ScT Tryd.prog 89 := ⟨fun w => Tryd.isAgg89 w, fun w => Tryd.sizeOf89 w⟩
theorem sc92 : ScT Tryd.prog 92 := ⟨fun w => Tryd.isAgg92 w, fun w => Tryd.sizeOf92 w⟩
theorem sc95 : ScT Tryd.prog 95 := ⟨fun w => Tryd.isAgg95 w, fun w => Tryd.sizeOf95 w⟩
theorem sc98 : ScT Tryd.prog 98 := ⟨fun w => Tryd.isAgg98 w, fun w => Tryd.sizeOf98 w⟩
theorem sc103 : ScT Tryd.prog 103 := ⟨fun w => Tryd.isAgg103 w, fun w => Tryd.sizeOf103 w⟩
theorem sc104 : ScT Tryd.prog 104 := ⟨fun w => Tryd.isAgg104 w, fun w => Tryd.sizeOf104 w⟩
theorem sc105 : ScT Tryd.prog 105 := ⟨fun w => Tryd.isAgg105 w, fun w => Tryd.sizeOf105 w⟩
theorem sc106 : ScT Tryd.prog 106 := ⟨fun w => Tryd.isAgg106 w, fun w => Tryd.sizeOf106 w⟩
theorem sc107 : ScT Tryd.prog 107 := ⟨fun w => Tryd.isAgg107 w, fun w => Tryd.sizeOf107 w⟩
theorem sc108 : ScT Tryd.prog 108 := ⟨fun w => Tryd.isAgg108 w, fun w => Tryd.sizeOf108 w⟩
theorem sc111 : ScT Tryd.prog 111 := ⟨fun w => Tryd.isAgg111 w, fun w => Tryd.sizeOf111 w⟩
theorem sc116 : ScT Tryd.prog 116 := ⟨fun w => Tryd.isAgg116 w, fun w => Tryd.sizeOf116 w⟩
theorem sc117 : ScT Tryd.prog 117 := ⟨fun w => Tryd.isAgg117 w, fun w => Tryd.sizeOf117 w⟩
theorem sc120 : ScT Tryd.prog 120 := ⟨fun w => Tryd.isAgg120 w, fun w => Tryd.sizeOf120 w⟩
theorem sc121 : ScT Tryd.prog 121 := ⟨fun w => Tryd.isAgg121 w, fun w => Tryd.sizeOf121 w⟩
theorem sc123 : ScT Tryd.prog 123 := ⟨fun w => Tryd.isAgg123 w, fun w => Tryd.sizeOf123 w⟩
theorem sc124 : ScT Tryd.prog 124 := ⟨fun w => Tryd.isAgg124 w, fun w => Tryd.sizeOf124 w⟩
theorem sc125 : ScT Tryd.prog 125 := ⟨fun w => Tryd.isAgg125 w, fun w => Tryd.sizeOf125 w⟩
theorem sc126 : ScT Tryd.prog 126 := ⟨fun w => Tryd.isAgg126 w, fun w => Tryd.sizeOf126 w⟩
theorem sc127 : ScT Tryd.prog 127 := ⟨fun w => Tryd.isAgg127 w, fun w => Tryd.sizeOf127 w⟩
theorem sc128 : ScT Tryd.prog 128 := ⟨fun w => Tryd.isAgg128 w, fun w => Tryd.sizeOf128 w⟩
theorem sc130 : ScT Tryd.prog 130 := ⟨fun w => Tryd.isAgg130 w, fun w => Tryd.sizeOf130 w⟩
theorem sc131 : ScT Tryd.prog 131 := ⟨fun w => Tryd.isAgg131 w, fun w => Tryd.sizeOf131 w⟩
theorem sc133 : ScT Tryd.prog 133 := ⟨fun w => Tryd.isAgg133 w, fun w => Tryd.sizeOf133 w⟩
theorem sc134 : ScT Tryd.prog 134 := ⟨fun w => Tryd.isAgg134 w, fun w => Tryd.sizeOf134 w⟩
theorem sc135 : ScT Tryd.prog 135 := ⟨fun w => Tryd.isAgg135 w, fun w => Tryd.sizeOf135 w⟩
theorem sc137 : ScT Tryd.prog 137 := ⟨fun w => Tryd.isAgg137 w, fun w => Tryd.sizeOf137 w⟩
theorem sc140 : ScT Tryd.prog 140 := ⟨fun w => Tryd.isAgg140 w, fun w => Tryd.sizeOf140 w⟩
theorem sc141 : ScT Tryd.prog 141 := ⟨fun w => Tryd.isAgg141 w, fun w => Tryd.sizeOf141 w⟩
theorem sc142 : ScT Tryd.prog 142 := ⟨fun w => Tryd.isAgg142 w, fun w => Tryd.sizeOf142 w⟩
theorem sc143 : ScT Tryd.prog 143 := ⟨fun w => Tryd.isAgg143 w, fun w => Tryd.sizeOf143 w⟩
theorem sc144 : ScT Tryd.prog 144 := ⟨fun w => Tryd.isAgg144 w, fun w => Tryd.sizeOf144 w⟩
theorem sc145 : ScT Tryd.prog 145 := ⟨fun w => Tryd.isAgg145 w, fun w => Tryd.sizeOf145 w⟩
theorem sc149 : ScT Tryd.prog 149 := ⟨fun w => Tryd.isAgg149 w, fun w => Tryd.sizeOf149 w⟩
theorem sc150 : ScT Tryd.prog 150 := ⟨fun w => Tryd.isAgg150 w, fun w => Tryd.sizeOf150 w⟩
theorem sc151 : ScT Tryd.prog 151 := ⟨fun w => Tryd.isAgg151 w, fun w => Tryd.sizeOf151 w⟩
theorem sc152 : ScT Tryd.prog 152 := ⟨fun w => Tryd.isAgg152 w, fun w => Tryd.sizeOf152 w⟩
theorem sc153 : ScT Tryd.prog 153 := ⟨fun w => Tryd.isAgg153 w, fun w => Tryd.sizeOf153 w⟩
theorem sc154 : ScT Tryd.prog 154 := ⟨fun w => Tryd.isAgg154 w, fun w => Tryd.sizeOf154 w⟩
theorem sc155 : ScT Tryd.prog 155 := ⟨fun w => Tryd.isAgg155 w, fun w => Tryd.sizeOf155 w⟩
theorem sc157 : ScT Tryd.prog 157 := ⟨fun w => Tryd.isAgg157 w, fun w => Tryd.sizeOf157 w⟩
theorem sc158 : ScT Tryd.prog 158 := ⟨fun w => Tryd.isAgg158 w, fun w => Tryd.sizeOf158 w⟩
theorem sc163 : ScT Tryd.prog 163 := ⟨fun w => Tryd.isAgg163 w, fun w => Tryd.sizeOf163 w⟩
theorem sc169 : ScT Tryd.prog 169 := ⟨fun w => Tryd.isAgg169 w, fun w => Tryd.sizeOf169 w⟩
theorem sc170 : ScT Tryd.prog 170 := ⟨fun w => Tryd.isAgg170 w, fun w => Tryd.sizeOf170 w⟩
theorem sc171 : ScT Tryd.prog 171 := ⟨fun w => Tryd.isAgg171 w, fun w => Tryd.sizeOf171 w⟩
theorem sc172 : ScT Tryd.prog 172 := ⟨fun w => Tryd.isAgg172 w, fun w => Tryd.sizeOf172 w⟩
theorem sc173 : ScT Tryd.prog 173 := ⟨fun w => Tryd.isAgg173 w, fun w => Tryd.sizeOf173 w⟩
theorem sc174 : ScT Tryd.prog 174 := ⟨fun w => Tryd.isAgg174 w, fun w => Tryd.sizeOf174 w⟩
theorem sl25 : SlT Tryd.prog 25 5 1 1 (.int .u8 0) := ⟨Tryd.underlying25, by decide, rfl, Tryd.t5, by kernel_rfl, rfl, rfl, rfl⟩
theorem sl34 : SlT Tryd.prog 34 25 1 24 (.slice none 0 0) := ⟨Tryd.underlying34, by decide, rfl, Tryd.t25, by kernel_rfl, rfl, rfl, rfl⟩
theorem sl48 : SlT Tryd.prog 48 69 3 40 (.agg #[.int .i64 0, .slice none 0 0, .int .i64 0]) := ⟨Tryd.underlying48, by decide, rfl, Tryd.t69, by kernel_rfl, rfl, rfl, rfl⟩
theorem sl67 : SlT Tryd.prog 67 3 1 8 (.int .i64 0) := ⟨Tryd.underlying67, by decide, rfl, Tryd.t3, by kernel_rfl, rfl, rfl, rfl⟩
theorem sl80 : SlT Tryd.prog 80 110 2 32 (.agg #[.int .i64 0, .slice none 0 0]) := ⟨Tryd.underlying80, by decide, rfl, Tryd.t110, by kernel_rfl, rfl, rfl, rfl⟩
theorem sl87 : SlT Tryd.prog 87 91 2 16 (.agg #[.int .i64 0, .int .i64 0]) := ⟨Tryd.underlying87, by decide, rfl, Tryd.t91, by kernel_rfl, rfl, rfl, rfl⟩
theorem sl95 : SlT Tryd.prog 95 139 3 40 (.agg #[.int .i64 0, .int .i64 0, .slice none 0 0]) := ⟨Tryd.underlying95, by decide, rfl, Tryd.t139, by kernel_rfl, rfl, rfl, rfl⟩
theorem sl103 : SlT Tryd.prog 103 73 1 8 (.nilFunc) := ⟨Tryd.underlying103, by decide, rfl, Tryd.t73, by kernel_rfl, rfl, rfl, rfl⟩
theorem sl111 : SlT Tryd.prog 111 113 2 32 (.agg #[.int .i64 0, .slice none 0 0]) := ⟨Tryd.underlying111, by decide, rfl, Tryd.t113, by kernel_rfl, rfl, rfl, rfl⟩
end Go.Proofs.YtehakfbfjpolfaaDoor
