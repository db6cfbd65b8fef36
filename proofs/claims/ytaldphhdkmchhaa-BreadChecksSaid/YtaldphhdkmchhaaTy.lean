/- Facts on the program's types and functions, by program. -/
import Derived.Test.YtaldphhdkmchhaaEng
import Derived.Test.YtaldphhdkmchhaaRows
namespace Go.Proofs.Ytaldphhdkmchhaa
set_option linter.unusedVariables false
open Go
theorem mixed : Try.prog.follows .mixedOrders = true := by kernel_rfl
theorem ag129 : aggN Try.prog 129 = some 2 := by kernel_rfl
theorem ag135 : aggN Try.prog 135 = some 5 := by kernel_rfl
theorem ag150 : aggN Try.prog 150 = some 496 := by kernel_rfl
theorem ag173 : aggN Try.prog 173 = some 4 := by kernel_rfl
theorem ag23 : aggN Try.prog 23 = some 3 := by kernel_rfl
theorem ag26 : aggN Try.prog 26 = some 11 := by kernel_rfl
theorem ag33 : aggN Try.prog 33 = some 5 := by kernel_rfl
theorem ag34 : aggN Try.prog 34 = some 3 := by kernel_rfl
theorem ag37 : aggN Try.prog 37 = some 11 := by kernel_rfl
theorem ag91 : aggN Try.prog 91 = some 2 := by kernel_rfl
theorem ag99 : aggN Try.prog 99 = some 4 := by kernel_rfl
theorem ap101 : apT Try.prog 101 = some (173, 4, 32) := by kernel_rfl
theorem ap24 : apT Try.prog 24 = some (91, 2, 16) := by kernel_rfl
theorem ap27 : apT Try.prog 27 = some (33, 5, 40) := by kernel_rfl
theorem ap35 : apT Try.prog 35 = some (129, 2, 16) := by kernel_rfl
theorem ap42 : apT Try.prog 42 = some (3, 1, 8) := by kernel_rfl
theorem ap46 : apT Try.prog 46 = some (135, 5, 40) := by kernel_rfl
theorem ap80 : apT Try.prog 80 = some (4, 1, 1) := by kernel_rfl
theorem ap82 : apT Try.prog 82 = some (34, 3, 24) := by kernel_rfl
theorem ap96 : apT Try.prog 96 = some (99, 4, 32) := by kernel_rfl
theorem ar144 : arN Try.prog 144 = some (4, 1) := by kernel_rfl
theorem ar145 : arN Try.prog 145 = some (4, 4) := by kernel_rfl
theorem ar150 : arN Try.prog 150 = some (31, 16) := by kernel_rfl
theorem cal100 : cal Try.prog 100 = true := by kernel_rfl
theorem cal101 : cal Try.prog 101 = true := by kernel_rfl
theorem cal102 : cal Try.prog 102 = true := by kernel_rfl
theorem cal103 : cal Try.prog 103 = true := by kernel_rfl
theorem cal104 : cal Try.prog 104 = true := by kernel_rfl
theorem cal105 : cal Try.prog 105 = true := by kernel_rfl
theorem cal106 : cal Try.prog 106 = true := by kernel_rfl
theorem cal107 : cal Try.prog 107 = true := by kernel_rfl
theorem cal108 : cal Try.prog 108 = true := by kernel_rfl
theorem cal110 : cal Try.prog 110 = true := by kernel_rfl
theorem cal112 : cal Try.prog 112 = true := by kernel_rfl
theorem cal113 : cal Try.prog 113 = true := by kernel_rfl
theorem cal114 : cal Try.prog 114 = true := by kernel_rfl
theorem cal115 : cal Try.prog 115 = true := by kernel_rfl
theorem cal116 : cal Try.prog 116 = true := by kernel_rfl
theorem cal117 : cal Try.prog 117 = true := by kernel_rfl
theorem cal118 : cal Try.prog 118 = true := by kernel_rfl
theorem cal119 : cal Try.prog 119 = true := by kernel_rfl
theorem cal120 : cal Try.prog 120 = true := by kernel_rfl
theorem cal121 : cal Try.prog 121 = true := by kernel_rfl
theorem cal124 : cal Try.prog 124 = true := by kernel_rfl
theorem cal126 : cal Try.prog 126 = true := by kernel_rfl
theorem cal127 : cal Try.prog 127 = true := by kernel_rfl
theorem cal128 : cal Try.prog 128 = true := by kernel_rfl
theorem cal129 : cal Try.prog 129 = true := by kernel_rfl
theorem cal130 : cal Try.prog 130 = true := by kernel_rfl
theorem cal131 : cal Try.prog 131 = true := by kernel_rfl
theorem cal132 : cal Try.prog 132 = true := by kernel_rfl
theorem cal133 : cal Try.prog 133 = true := by kernel_rfl
theorem cal134 : cal Try.prog 134 = true := by kernel_rfl
theorem cal135 : cal Try.prog 135 = true := by kernel_rfl
theorem cal136 : cal Try.prog 136 = true := by kernel_rfl
theorem cal137 : cal Try.prog 137 = true := by kernel_rfl
theorem cal138 : cal Try.prog 138 = true := by kernel_rfl
theorem cal15 : cal Try.prog 15 = true := by kernel_rfl
theorem cal16 : cal Try.prog 16 = true := by kernel_rfl
theorem cal17 : cal Try.prog 17 = true := by kernel_rfl
theorem cal18 : cal Try.prog 18 = true := by kernel_rfl
theorem cal19 : cal Try.prog 19 = true := by kernel_rfl
theorem cal20 : cal Try.prog 20 = true := by kernel_rfl
theorem cal21 : cal Try.prog 21 = true := by kernel_rfl
theorem cal22 : cal Try.prog 22 = true := by kernel_rfl
theorem cal23 : cal Try.prog 23 = true := by kernel_rfl
theorem cal24 : cal Try.prog 24 = true := by kernel_rfl
theorem cal25 : cal Try.prog 25 = true := by kernel_rfl
theorem cal26 : cal Try.prog 26 = true := by kernel_rfl
theorem cal27 : cal Try.prog 27 = true := by kernel_rfl
theorem cal28 : cal Try.prog 28 = true := by kernel_rfl
theorem cal29 : cal Try.prog 29 = true := by kernel_rfl
theorem cal30 : cal Try.prog 30 = true := by kernel_rfl
theorem cal31 : cal Try.prog 31 = true := by kernel_rfl
theorem cal32 : cal Try.prog 32 = true := by kernel_rfl
theorem cal33 : cal Try.prog 33 = true := by kernel_rfl
theorem cal34 : cal Try.prog 34 = true := by kernel_rfl
theorem cal35 : cal Try.prog 35 = true := by kernel_rfl
theorem cal36 : cal Try.prog 36 = true := by kernel_rfl
theorem cal37 : cal Try.prog 37 = true := by kernel_rfl
theorem cal38 : cal Try.prog 38 = true := by kernel_rfl
theorem cal39 : cal Try.prog 39 = true := by kernel_rfl
theorem cal40 : cal Try.prog 40 = true := by kernel_rfl
theorem cal41 : cal Try.prog 41 = true := by kernel_rfl
theorem cal42 : cal Try.prog 42 = true := by kernel_rfl
theorem cal43 : cal Try.prog 43 = true := by kernel_rfl
theorem cal44 : cal Try.prog 44 = true := by kernel_rfl
theorem cal45 : cal Try.prog 45 = true := by kernel_rfl
theorem cal55 : cal Try.prog 55 = true := by kernel_rfl
theorem cal57 : cal Try.prog 57 = true := by kernel_rfl
theorem cal58 : cal Try.prog 58 = true := by kernel_rfl
theorem cal59 : cal Try.prog 59 = true := by kernel_rfl
theorem cal60 : cal Try.prog 60 = true := by kernel_rfl
theorem cal61 : cal Try.prog 61 = true := by kernel_rfl
theorem cal62 : cal Try.prog 62 = true := by kernel_rfl
theorem cal63 : cal Try.prog 63 = true := by kernel_rfl
theorem cal64 : cal Try.prog 64 = true := by kernel_rfl
theorem cal65 : cal Try.prog 65 = true := by kernel_rfl
theorem cal66 : cal Try.prog 66 = true := by kernel_rfl
theorem cal67 : cal Try.prog 67 = true := by kernel_rfl
theorem cal71 : cal Try.prog 71 = true := by kernel_rfl
theorem cal76 : cal Try.prog 76 = true := by kernel_rfl
theorem cal80 : cal Try.prog 80 = true := by kernel_rfl
theorem cal81 : cal Try.prog 81 = true := by kernel_rfl
theorem cal82 : cal Try.prog 82 = true := by kernel_rfl
theorem cal83 : cal Try.prog 83 = true := by kernel_rfl
theorem cal84 : cal Try.prog 84 = true := by kernel_rfl
theorem cal85 : cal Try.prog 85 = true := by kernel_rfl
theorem cal86 : cal Try.prog 86 = true := by kernel_rfl
theorem cal87 : cal Try.prog 87 = true := by kernel_rfl
theorem cal88 : cal Try.prog 88 = true := by kernel_rfl
theorem cal89 : cal Try.prog 89 = true := by kernel_rfl
theorem cal90 : cal Try.prog 90 = true := by kernel_rfl
theorem cal91 : cal Try.prog 91 = true := by kernel_rfl
theorem cal92 : cal Try.prog 92 = true := by kernel_rfl
theorem cal93 : cal Try.prog 93 = true := by kernel_rfl
theorem cal94 : cal Try.prog 94 = true := by kernel_rfl
theorem cal95 : cal Try.prog 95 = true := by kernel_rfl
theorem cal96 : cal Try.prog 96 = true := by kernel_rfl
theorem cal97 : cal Try.prog 97 = true := by kernel_rfl
theorem cal98 : cal Try.prog 98 = true := by kernel_rfl
theorem cal99 : cal Try.prog 99 = true := by kernel_rfl
theorem cn129 : cellN Try.prog 129 = some 2 := by kernel_rfl
theorem cn135 : cellN Try.prog 135 = some 5 := by kernel_rfl
theorem cn138 : cellN Try.prog 138 = some 1 := by kernel_rfl
theorem cn150 : cellN Try.prog 150 = some 496 := by kernel_rfl
theorem cn159 : cellN Try.prog 159 = some 1 := by kernel_rfl
theorem cn160 : cellN Try.prog 160 = some 1 := by kernel_rfl
theorem cn173 : cellN Try.prog 173 = some 4 := by kernel_rfl
theorem cn23 : cellN Try.prog 23 = some 3 := by kernel_rfl
theorem cn24 : cellN Try.prog 24 = some 1 := by kernel_rfl
theorem cn26 : cellN Try.prog 26 = some 11 := by kernel_rfl
theorem cn27 : cellN Try.prog 27 = some 1 := by kernel_rfl
theorem cn3 : cellN Try.prog 3 = some 1 := by kernel_rfl
theorem cn33 : cellN Try.prog 33 = some 5 := by kernel_rfl
theorem cn34 : cellN Try.prog 34 = some 3 := by kernel_rfl
theorem cn35 : cellN Try.prog 35 = some 1 := by kernel_rfl
theorem cn37 : cellN Try.prog 37 = some 11 := by kernel_rfl
theorem cn39 : cellN Try.prog 39 = some 1 := by kernel_rfl
theorem cn4 : cellN Try.prog 4 = some 1 := by kernel_rfl
theorem cn91 : cellN Try.prog 91 = some 2 := by kernel_rfl
theorem cn96 : cellN Try.prog 96 = some 1 := by kernel_rfl
theorem cn99 : cellN Try.prog 99 = some 4 := by kernel_rfl
theorem el101 : elN Try.prog 101 = some 4 := by kernel_rfl
theorem el24 : elN Try.prog 24 = some 2 := by kernel_rfl
theorem el27 : elN Try.prog 27 = some 5 := by kernel_rfl
theorem el35 : elN Try.prog 35 = some 2 := by kernel_rfl
theorem el42 : elN Try.prog 42 = some 1 := by kernel_rfl
theorem el46 : elN Try.prog 46 = some 5 := by kernel_rfl
theorem el80 : elN Try.prog 80 = some 1 := by kernel_rfl
theorem el82 : elN Try.prog 82 = some 3 := by kernel_rfl
theorem el96 : elN Try.prog 96 = some 4 := by kernel_rfl
theorem eqf150 : eqB Try.prog 10000 150 = some (true, 496) := by kernel_rfl
theorem eqf162 : eqB Try.prog 10000 162 = some (true, 4) := by kernel_rfl
theorem eqf23 : eqB Try.prog 10000 23 = some (true, 3) := by kernel_rfl
theorem eqf33 : eqB Try.prog 10000 33 = some (true, 5) := by kernel_rfl
theorem eqf34 : eqB Try.prog 10000 34 = some (true, 3) := by kernel_rfl
theorem eqf91 : eqB Try.prog 10000 91 = some (true, 2) := by kernel_rfl
theorem eqf99 : eqB Try.prog 10000 99 = some (true, 4) := by kernel_rfl
theorem eqg150 : Try.prog.eqGuardType Try.prog.depth 150 = false := by kernel_rfl
theorem eqg23 : Try.prog.eqGuardType Try.prog.depth 23 = false := by kernel_rfl
theorem eqg33 : Try.prog.eqGuardType Try.prog.depth 33 = false := by kernel_rfl
theorem eqg34 : Try.prog.eqGuardType Try.prog.depth 34 = false := by kernel_rfl
theorem eqg91 : Try.prog.eqGuardType Try.prog.depth 91 = false := by kernel_rfl
theorem eqg99 : Try.prog.eqGuardType Try.prog.depth 99 = false := by kernel_rfl
theorem fo129_0 : fOff Try.prog 129 0 = some 0 := by kernel_rfl
theorem fo129_1 : fOff Try.prog 129 1 = some 1 := by kernel_rfl
theorem fo135_0 : fOff Try.prog 135 0 = some 0 := by kernel_rfl
theorem fo135_1 : fOff Try.prog 135 1 = some 3 := by kernel_rfl
theorem fo135_2 : fOff Try.prog 135 2 = some 4 := by kernel_rfl
theorem fo148_0 : fOff Try.prog 148 0 = some 0 := by kernel_rfl
theorem fo153_0 : fOff Try.prog 153 0 = some 0 := by kernel_rfl
theorem fo153_1 : fOff Try.prog 153 1 = some 11 := by kernel_rfl
theorem fo153_2 : fOff Try.prog 153 2 = some 12 := by kernel_rfl
theorem fo153_3 : fOff Try.prog 153 3 = some 508 := by kernel_rfl
theorem fo153_4 : fOff Try.prog 153 4 = some 509 := by kernel_rfl
theorem fo173_0 : fOff Try.prog 173 0 = some 0 := by kernel_rfl
theorem fo173_1 : fOff Try.prog 173 1 = some 3 := by kernel_rfl
theorem fo23_0 : fOff Try.prog 23 0 = some 0 := by kernel_rfl
theorem fo23_1 : fOff Try.prog 23 1 = some 1 := by kernel_rfl
theorem fo23_2 : fOff Try.prog 23 2 = some 2 := by kernel_rfl
theorem fo26_0 : fOff Try.prog 26 0 = some 0 := by kernel_rfl
theorem fo26_1 : fOff Try.prog 26 1 = some 3 := by kernel_rfl
theorem fo26_2 : fOff Try.prog 26 2 = some 4 := by kernel_rfl
theorem fo26_3 : fOff Try.prog 26 3 = some 5 := by kernel_rfl
theorem fo26_4 : fOff Try.prog 26 4 = some 6 := by kernel_rfl
theorem fo26_5 : fOff Try.prog 26 5 = some 7 := by kernel_rfl
theorem fo26_6 : fOff Try.prog 26 6 = some 8 := by kernel_rfl
theorem fo26_7 : fOff Try.prog 26 7 = some 9 := by kernel_rfl
theorem fo26_8 : fOff Try.prog 26 8 = some 10 := by kernel_rfl
theorem fo33_0 : fOff Try.prog 33 0 = some 0 := by kernel_rfl
theorem fo33_1 : fOff Try.prog 33 1 = some 3 := by kernel_rfl
theorem fo33_2 : fOff Try.prog 33 2 = some 4 := by kernel_rfl
theorem fo34_0 : fOff Try.prog 34 0 = some 0 := by kernel_rfl
theorem fo34_1 : fOff Try.prog 34 1 = some 1 := by kernel_rfl
theorem fo34_2 : fOff Try.prog 34 2 = some 2 := by kernel_rfl
theorem fo37_0 : fOff Try.prog 37 0 = some 0 := by kernel_rfl
theorem fo37_1 : fOff Try.prog 37 1 = some 3 := by kernel_rfl
theorem fo37_2 : fOff Try.prog 37 2 = some 4 := by kernel_rfl
theorem fo37_3 : fOff Try.prog 37 3 = some 5 := by kernel_rfl
theorem fo37_4 : fOff Try.prog 37 4 = some 6 := by kernel_rfl
theorem fo37_5 : fOff Try.prog 37 5 = some 7 := by kernel_rfl
theorem fo37_6 : fOff Try.prog 37 6 = some 8 := by kernel_rfl
theorem fo37_7 : fOff Try.prog 37 7 = some 9 := by kernel_rfl
theorem fo37_8 : fOff Try.prog 37 8 = some 10 := by kernel_rfl
theorem fo91_0 : fOff Try.prog 91 0 = some 0 := by kernel_rfl
theorem fo91_1 : fOff Try.prog 91 1 = some 1 := by kernel_rfl
theorem fo99_0 : fOff Try.prog 99 0 = some 0 := by kernel_rfl
theorem fo99_1 : fOff Try.prog 99 1 = some 3 := by kernel_rfl
theorem isl101 : isSl Try.prog 101 = true := by kernel_rfl
theorem isl24 : isSl Try.prog 24 = true := by kernel_rfl
theorem isl27 : isSl Try.prog 27 = true := by kernel_rfl
theorem isl35 : isSl Try.prog 35 = true := by kernel_rfl
theorem isl42 : isSl Try.prog 42 = true := by kernel_rfl
theorem isl46 : isSl Try.prog 46 = true := by kernel_rfl
theorem isl82 : isSl Try.prog 82 = true := by kernel_rfl
theorem isl96 : isSl Try.prog 96 = true := by kernel_rfl
theorem mke151 : mapKE Try.prog 151 = some (23, 3) := by kernel_rfl
theorem mke159 : mapKE Try.prog 159 = some (162, 3) := by kernel_rfl
theorem noa162 : noArr Try.prog 10000 162 = true := by kernel_rfl
theorem noa23 : noArr Try.prog 10000 23 = true := by kernel_rfl
theorem pl135 : placeL Try.prog 135 = some [(0, 3), (3, 1), (4, 1)] := by kernel_rfl
theorem pl148 : placeL Try.prog 148 = some [(0, 1)] := by kernel_rfl
theorem pl153 : placeL Try.prog 153 = some [(0, 11), (11, 1), (12, 496), (508, 1), (509, 1)] := by kernel_rfl
theorem pl162 : placeL Try.prog 162 = some [(0, 3), (3, 1)] := by kernel_rfl
theorem pl173 : placeL Try.prog 173 = some [(0, 3), (3, 1)] := by kernel_rfl
theorem pl23 : placeL Try.prog 23 = some [(0, 1), (1, 1), (2, 1)] := by kernel_rfl
theorem pl26 : placeL Try.prog 26 = some [(0, 3), (3, 1), (4, 1), (5, 1), (6, 1), (7, 1), (8, 1), (9, 1), (10, 1)] := by kernel_rfl
theorem pl33 : placeL Try.prog 33 = some [(0, 3), (3, 1), (4, 1)] := by kernel_rfl
theorem pl34 : placeL Try.prog 34 = some [(0, 1), (1, 1), (2, 1)] := by kernel_rfl
theorem pl37 : placeL Try.prog 37 = some [(0, 3), (3, 1), (4, 1), (5, 1), (6, 1), (7, 1), (8, 1), (9, 1), (10, 1)] := by kernel_rfl
theorem pl91 : placeL Try.prog 91 = some [(0, 1), (1, 1)] := by kernel_rfl
theorem pl99 : placeL Try.prog 99 = some [(0, 3), (3, 1)] := by kernel_rfl
theorem sc119 : scal Try.prog 119 = true := by kernel_rfl
theorem sc138 : scal Try.prog 138 = true := by kernel_rfl
theorem sc146 : scal Try.prog 146 = true := by kernel_rfl
theorem sc151 : scal Try.prog 151 = true := by kernel_rfl
theorem sc159 : scal Try.prog 159 = true := by kernel_rfl
theorem sc160 : scal Try.prog 160 = true := by kernel_rfl
theorem sc176 : scal Try.prog 176 = true := by kernel_rfl
theorem sc179 : scal Try.prog 179 = true := by kernel_rfl
theorem sc24 : scal Try.prog 24 = true := by kernel_rfl
theorem sc27 : scal Try.prog 27 = true := by kernel_rfl
theorem sc3 : scal Try.prog 3 = true := by kernel_rfl
theorem sc35 : scal Try.prog 35 = true := by kernel_rfl
theorem sc39 : scal Try.prog 39 = true := by kernel_rfl
theorem sc4 : scal Try.prog 4 = true := by kernel_rfl
theorem sc96 : scal Try.prog 96 = true := by kernel_rfl
theorem sl101 : slE Try.prog 101 = some (173, 4) := by kernel_rfl
theorem sl24 : slE Try.prog 24 = some (91, 2) := by kernel_rfl
theorem sl27 : slE Try.prog 27 = some (33, 5) := by kernel_rfl
theorem sl35 : slE Try.prog 35 = some (129, 2) := by kernel_rfl
theorem sl42 : slE Try.prog 42 = some (3, 1) := by kernel_rfl
theorem sl46 : slE Try.prog 46 = some (135, 5) := by kernel_rfl
theorem sl80 : slE Try.prog 80 = some (4, 1) := by kernel_rfl
theorem sl82 : slE Try.prog 82 = some (34, 3) := by kernel_rfl
theorem sl96 : slE Try.prog 96 = some (99, 4) := by kernel_rfl
theorem ub4 : Try.prog.underlying 4 = some .bool := by kernel_rfl
theorem zl129 : zeroL Try.prog 129 = some ([.int .i64 0, .int .i64 0]) := by kernel_rfl
theorem zl135 : zeroL Try.prog 135 = some ([.int .i64 0, .int .i64 0, .int .i64 0, .int .i64 0, .int .i64 0]) := by kernel_rfl
theorem zl138 : zeroL Try.prog 138 = some ([.pointer none]) := by kernel_rfl
theorem zl148 : zeroL Try.prog 148 = some ([.nilFunc]) := by kernel_rfl
theorem zl150 : zeroL Try.prog 150 = some (List.replicate 496 (.int .i64 0)) := by kernel_rfl
theorem zl153 : zeroL Try.prog 153 = some (List.replicate 10 (.int .i64 0) ++ [.slice none 0 0] ++ [.nilFunc] ++ List.replicate 496 (.int .i64 0) ++ [.slice none 0 0] ++ [.map none]) := by kernel_rfl
theorem zl159 : zeroL Try.prog 159 = some ([.map none]) := by kernel_rfl
theorem zl160 : zeroL Try.prog 160 = some ([.nilFunc]) := by kernel_rfl
theorem zl162 : zeroL Try.prog 162 = some ([.int .i64 0, .int .i64 0, .int .i64 0, .int .i64 0]) := by kernel_rfl
theorem zl173 : zeroL Try.prog 173 = some ([.int .i64 0, .int .i64 0, .int .i64 0, .int .i64 0]) := by kernel_rfl
theorem zl23 : zeroL Try.prog 23 = some ([.int .i64 0, .int .i64 0, .int .i64 0]) := by kernel_rfl
theorem zl26 : zeroL Try.prog 26 = some ([.int .i64 0, .int .i64 0, .int .i64 0, .int .i64 0, .int .i64 0, .int .i64 0, .int .i64 0, .int .i64 0, .int .i64 0, .int .i64 0, .slice none 0 0]) := by kernel_rfl
theorem zl27 : zeroL Try.prog 27 = some ([.slice none 0 0]) := by kernel_rfl
theorem zl3 : zeroL Try.prog 3 = some ([.int .i64 0]) := by kernel_rfl
theorem zl33 : zeroL Try.prog 33 = some ([.int .i64 0, .int .i64 0, .int .i64 0, .int .i64 0, .int .i64 0]) := by kernel_rfl
theorem zl34 : zeroL Try.prog 34 = some ([.int .i64 0, .int .i64 0, .int .i64 0]) := by kernel_rfl
theorem zl37 : zeroL Try.prog 37 = some ([.int .i64 0, .int .i64 0, .int .i64 0, .int .i64 0, .int .i64 0, .int .i64 0, .int .i64 0, .int .i64 0, .int .i64 0, .int .i64 0, .slice none 0 0]) := by kernel_rfl
theorem zl39 : zeroL Try.prog 39 = some ([.int .i64 0]) := by kernel_rfl
theorem zl4 : zeroL Try.prog 4 = some ([.bool false]) := by kernel_rfl
theorem zl91 : zeroL Try.prog 91 = some ([.int .i64 0, .int .i64 0]) := by kernel_rfl
theorem zl99 : zeroL Try.prog 99 = some ([.int .i64 0, .int .i64 0, .int .i64 0, .int .i64 0]) := by kernel_rfl
theorem zv3 : zvl Try.prog 3 = some (.int .i64 0) := by kernel_rfl
end Go.Proofs.Ytaldphhdkmchhaa
