/- What the laid program says of its types, as the engine asks it. Conditions: none. -/
import Derived.Test.YtjjmomkjjdilnaaEngB
import Derived.Test.YtjjmomkjjdilnaaProg
set_option linter.all false
set_option maxRecDepth 100000
/-! The types of the program, as the walk asks for them (printed by a program: wip/tests/mkty.py). -/
namespace Go.Proofs.Ytjjmomkjjdilnaa.T
open Go Go.Eng Go.Proofs
@[simp] theorem ty2 : tyI Try.prog 2 = some ⟨1, 8, false⟩ := by rfl
@[simp] theorem us2 : (Try.prog.underlying 2).isSome = true := by rfl
@[simp] theorem it2 : intT Try.prog 2 = some .i64 := by rfl
@[simp] theorem z2 : zeroT' Try.prog 2 = some [.v (.int .i64 0)] := by rfl
@[simp] theorem ty3 : tyI Try.prog 3 = some ⟨1, 8, false⟩ := by rfl
@[simp] theorem us3 : (Try.prog.underlying 3).isSome = true := by rfl
@[simp] theorem it3 : intT Try.prog 3 = some .i64 := by rfl
@[simp] theorem z3 : zeroT' Try.prog 3 = some [.v (.int .i64 0)] := by rfl
@[simp] theorem ty4 : tyI Try.prog 4 = some ⟨1, 1, false⟩ := by rfl
@[simp] theorem us4 : (Try.prog.underlying 4).isSome = true := by rfl
@[simp] theorem bt4 : isBoolT Try.prog 4 = true := by rfl
@[simp] theorem z4 : zeroT' Try.prog 4 = some [.v (.bool false)] := by rfl
@[simp] theorem ty5 : tyI Try.prog 5 = some ⟨1, 1, false⟩ := by rfl
@[simp] theorem us5 : (Try.prog.underlying 5).isSome = true := by rfl
@[simp] theorem it5 : intT Try.prog 5 = some .u8 := by rfl
@[simp] theorem z5 : zeroT' Try.prog 5 = some [.v (.int .u8 0)] := by rfl
@[simp] theorem ty6 : tyI Try.prog 6 = some ⟨1, 1, false⟩ := by rfl
@[simp] theorem us6 : (Try.prog.underlying 6).isSome = true := by rfl
@[simp] theorem it6 : intT Try.prog 6 = some .u8 := by rfl
@[simp] theorem z6 : zeroT' Try.prog 6 = some [.v (.int .u8 0)] := by rfl
@[simp] theorem ty7 : tyI Try.prog 7 = some ⟨4, 24, true⟩ := by rfl
@[simp] theorem us7 : (Try.prog.underlying 7).isSome = true := by rfl
@[simp] theorem fl7_0 : fldT Try.prog 7 0 = some (0, 2) := by rfl
@[simp] theorem fl7_1 : fldT Try.prog 7 1 = some (1, 3) := by rfl
@[simp] theorem fl7_2 : fldT Try.prog 7 2 = some (2, 4) := by rfl
@[simp] theorem fl7_3 : fldT Try.prog 7 3 = some (3, 6) := by rfl
@[simp] theorem fo7 : fieldsOk Try.prog 7 = true := by rfl
@[simp] theorem z7 : zeroT' Try.prog 7 = some [.v (.int .i64 0), .v (.int .i64 0), .v (.bool false), .v (.int .u8 0)] := by rfl
@[simp] theorem ty8 : tyI Try.prog 8 = some ⟨4, 24, true⟩ := by rfl
@[simp] theorem us8 : (Try.prog.underlying 8).isSome = true := by rfl
@[simp] theorem fl8_0 : fldT Try.prog 8 0 = some (0, 2) := by rfl
@[simp] theorem fl8_1 : fldT Try.prog 8 1 = some (1, 3) := by rfl
@[simp] theorem fl8_2 : fldT Try.prog 8 2 = some (2, 4) := by rfl
@[simp] theorem fl8_3 : fldT Try.prog 8 3 = some (3, 6) := by rfl
@[simp] theorem fo8 : fieldsOk Try.prog 8 = true := by rfl
@[simp] theorem z8 : zeroT' Try.prog 8 = some [.v (.int .i64 0), .v (.int .i64 0), .v (.bool false), .v (.int .u8 0)] := by rfl
@[simp] theorem ty9 : tyI Try.prog 9 = some ⟨1, 16, false⟩ := by rfl
@[simp] theorem us9 : (Try.prog.underlying 9).isSome = true := by rfl
@[simp] theorem st9 : isStrT Try.prog 9 = true := by rfl
@[simp] theorem ty10 : tyI Try.prog 10 = some ⟨1, 16, false⟩ := by rfl
@[simp] theorem us10 : (Try.prog.underlying 10).isSome = true := by rfl
@[simp] theorem st10 : isStrT Try.prog 10 = true := by rfl
@[simp] theorem ty11 : tyI Try.prog 11 = some ⟨1, 16, false⟩ := by rfl
@[simp] theorem us11 : (Try.prog.underlying 11).isSome = true := by rfl
@[simp] theorem st11 : isStrT Try.prog 11 = true := by rfl
@[simp] theorem ty12 : tyI Try.prog 12 = some ⟨1, 8, false⟩ := by rfl
@[simp] theorem us12 : (Try.prog.underlying 12).isSome = true := by rfl
@[simp] theorem it12 : intT Try.prog 12 = some .u64 := by rfl
@[simp] theorem z12 : zeroT' Try.prog 12 = some [.v (.int .u64 0)] := by rfl
@[simp] theorem ty13 : tyI Try.prog 13 = some ⟨2, 24, true⟩ := by rfl
@[simp] theorem us13 : (Try.prog.underlying 13).isSome = true := by rfl
@[simp] theorem fl13_0 : fldT Try.prog 13 0 = some (0, 9) := by rfl
@[simp] theorem fl13_1 : fldT Try.prog 13 1 = some (1, 12) := by rfl
@[simp] theorem fo13 : fieldsOk Try.prog 13 = true := by rfl
@[simp] theorem ty14 : tyI Try.prog 14 = some ⟨2, 24, true⟩ := by rfl
@[simp] theorem us14 : (Try.prog.underlying 14).isSome = true := by rfl
@[simp] theorem fl14_0 : fldT Try.prog 14 0 = some (0, 9) := by rfl
@[simp] theorem fl14_1 : fldT Try.prog 14 1 = some (1, 12) := by rfl
@[simp] theorem fo14 : fieldsOk Try.prog 14 = true := by rfl
@[simp] theorem ty15 : tyI Try.prog 15 = some ⟨1, 8, false⟩ := by rfl
@[simp] theorem us15 : (Try.prog.underlying 15).isSome = true := by rfl
@[simp] theorem z15 : zeroT' Try.prog 15 = some [.v (.pointer none)] := by rfl
@[simp] theorem ty16 : tyI Try.prog 16 = some ⟨1, 8, false⟩ := by rfl
@[simp] theorem us16 : (Try.prog.underlying 16).isSome = true := by rfl
@[simp] theorem z16 : zeroT' Try.prog 16 = some [.v (.pointer none)] := by rfl
@[simp] theorem ty17 : tyI Try.prog 17 = some ⟨1, 8, false⟩ := by rfl
@[simp] theorem us17 : (Try.prog.underlying 17).isSome = true := by rfl
@[simp] theorem z17 : zeroT' Try.prog 17 = some [.v (.pointer none)] := by rfl
@[simp] theorem ty18 : tyI Try.prog 18 = some ⟨1, 8, true⟩ := by rfl
@[simp] theorem us18 : (Try.prog.underlying 18).isSome = true := by rfl
@[simp] theorem fl18_0 : fldT Try.prog 18 0 = some (0, 17) := by rfl
@[simp] theorem fo18 : fieldsOk Try.prog 18 = true := by rfl
@[simp] theorem z18 : zeroT' Try.prog 18 = some [.v (.pointer none)] := by rfl
@[simp] theorem ty19 : tyI Try.prog 19 = some ⟨1, 8, true⟩ := by rfl
@[simp] theorem us19 : (Try.prog.underlying 19).isSome = true := by rfl
@[simp] theorem fl19_0 : fldT Try.prog 19 0 = some (0, 17) := by rfl
@[simp] theorem fo19 : fieldsOk Try.prog 19 = true := by rfl
@[simp] theorem z19 : zeroT' Try.prog 19 = some [.v (.pointer none)] := by rfl
@[simp] theorem ty21 : tyI Try.prog 21 = some ⟨1, 4, false⟩ := by rfl
@[simp] theorem us21 : (Try.prog.underlying 21).isSome = true := by rfl
@[simp] theorem it21 : intT Try.prog 21 = some .i32 := by rfl
@[simp] theorem z21 : zeroT' Try.prog 21 = some [.v (.int .i32 0)] := by rfl
@[simp] theorem ty22 : tyI Try.prog 22 = some ⟨1, 24, false⟩ := by rfl
@[simp] theorem us22 : (Try.prog.underlying 22).isSome = true := by rfl
@[simp] theorem el22 : elT Try.prog 22 = some 30 := by rfl
@[simp] theorem z22 : zeroT' Try.prog 22 = some [.sl false 0 [] [] true] := by rfl
@[simp] theorem ty23 : tyI Try.prog 23 = some ⟨1, 8, false⟩ := by rfl
@[simp] theorem us23 : (Try.prog.underlying 23).isSome = true := by rfl
@[simp] theorem z23 : zeroT' Try.prog 23 = some [.v (.pointer none)] := by rfl
@[simp] theorem ty24 : tyI Try.prog 24 = some ⟨1, 8, false⟩ := by rfl
@[simp] theorem us24 : (Try.prog.underlying 24).isSome = true := by rfl
@[simp] theorem it24 : intT Try.prog 24 = some .i64 := by rfl
@[simp] theorem z24 : zeroT' Try.prog 24 = some [.v (.int .i64 0)] := by rfl
@[simp] theorem ty27 : tyI Try.prog 27 = some ⟨1, 8, false⟩ := by rfl
@[simp] theorem us27 : (Try.prog.underlying 27).isSome = true := by rfl
@[simp] theorem z27 : zeroT' Try.prog 27 = some [.v (.pointer none)] := by rfl
@[simp] theorem ty30 : tyI Try.prog 30 = some ⟨1, 24, false⟩ := by rfl
@[simp] theorem us30 : (Try.prog.underlying 30).isSome = true := by rfl
@[simp] theorem el30 : elT Try.prog 30 = some 3 := by rfl
@[simp] theorem z30 : zeroT' Try.prog 30 = some [.sl false 0 [] [] true] := by rfl
@[simp] theorem ty38 : tyI Try.prog 38 = some ⟨1, 24, false⟩ := by rfl
@[simp] theorem us38 : (Try.prog.underlying 38).isSome = true := by rfl
@[simp] theorem el38 : elT Try.prog 38 = some 44 := by rfl
@[simp] theorem z38 : zeroT' Try.prog 38 = some [.sl false 0 [] [] true] := by rfl
@[simp] theorem ty39 : tyI Try.prog 39 = some ⟨2, 32, true⟩ := by rfl
@[simp] theorem us39 : (Try.prog.underlying 39).isSome = true := by rfl
@[simp] theorem fl39_0 : fldT Try.prog 39 0 = some (0, 3) := by rfl
@[simp] theorem fl39_1 : fldT Try.prog 39 1 = some (1, 38) := by rfl
@[simp] theorem fo39 : fieldsOk Try.prog 39 = true := by rfl
@[simp] theorem z39 : zeroT' Try.prog 39 = some [.v (.int .i64 0), .sl false 0 [] [] true] := by rfl
@[simp] theorem ty40 : tyI Try.prog 40 = some ⟨2, 32, true⟩ := by rfl
@[simp] theorem us40 : (Try.prog.underlying 40).isSome = true := by rfl
@[simp] theorem fl40_0 : fldT Try.prog 40 0 = some (0, 3) := by rfl
@[simp] theorem fl40_1 : fldT Try.prog 40 1 = some (1, 38) := by rfl
@[simp] theorem fo40 : fieldsOk Try.prog 40 = true := by rfl
@[simp] theorem z40 : zeroT' Try.prog 40 = some [.v (.int .i64 0), .sl false 0 [] [] true] := by rfl
@[simp] theorem ty43 : tyI Try.prog 43 = some ⟨3, 24, true⟩ := by rfl
@[simp] theorem us43 : (Try.prog.underlying 43).isSome = true := by rfl
@[simp] theorem fl43_0 : fldT Try.prog 43 0 = some (0, 3) := by rfl
@[simp] theorem fl43_1 : fldT Try.prog 43 1 = some (1, 3) := by rfl
@[simp] theorem fl43_2 : fldT Try.prog 43 2 = some (2, 3) := by rfl
@[simp] theorem fo43 : fieldsOk Try.prog 43 = true := by rfl
@[simp] theorem z43 : zeroT' Try.prog 43 = some [.v (.int .i64 0), .v (.int .i64 0), .v (.int .i64 0)] := by rfl
@[simp] theorem ty44 : tyI Try.prog 44 = some ⟨3, 24, true⟩ := by rfl
@[simp] theorem us44 : (Try.prog.underlying 44).isSome = true := by rfl
@[simp] theorem fl44_0 : fldT Try.prog 44 0 = some (0, 3) := by rfl
@[simp] theorem fl44_1 : fldT Try.prog 44 1 = some (1, 3) := by rfl
@[simp] theorem fl44_2 : fldT Try.prog 44 2 = some (2, 3) := by rfl
@[simp] theorem fo44 : fieldsOk Try.prog 44 = true := by rfl
@[simp] theorem z44 : zeroT' Try.prog 44 = some [.v (.int .i64 0), .v (.int .i64 0), .v (.int .i64 0)] := by rfl
@[simp] theorem ty46 : tyI Try.prog 46 = some ⟨1, 24, false⟩ := by rfl
@[simp] theorem us46 : (Try.prog.underlying 46).isSome = true := by rfl
@[simp] theorem el46 : elT Try.prog 46 = some 4 := by rfl
@[simp] theorem z46 : zeroT' Try.prog 46 = some [.sl false 0 [] [] true] := by rfl
@[simp] theorem ty47 : tyI Try.prog 47 = some ⟨4, 80, true⟩ := by rfl
@[simp] theorem us47 : (Try.prog.underlying 47).isSome = true := by rfl
@[simp] theorem fl47_0 : fldT Try.prog 47 0 = some (0, 3) := by rfl
@[simp] theorem fl47_1 : fldT Try.prog 47 1 = some (1, 46) := by rfl
@[simp] theorem fl47_2 : fldT Try.prog 47 2 = some (2, 30) := by rfl
@[simp] theorem fl47_3 : fldT Try.prog 47 3 = some (3, 38) := by rfl
@[simp] theorem fo47 : fieldsOk Try.prog 47 = true := by rfl
@[simp] theorem z47 : zeroT' Try.prog 47 = some [.v (.int .i64 0), .sl false 0 [] [] true, .sl false 0 [] [] true, .sl false 0 [] [] true] := by rfl
@[simp] theorem ty48 : tyI Try.prog 48 = some ⟨4, 80, true⟩ := by rfl
@[simp] theorem us48 : (Try.prog.underlying 48).isSome = true := by rfl
@[simp] theorem fl48_0 : fldT Try.prog 48 0 = some (0, 3) := by rfl
@[simp] theorem fl48_1 : fldT Try.prog 48 1 = some (1, 46) := by rfl
@[simp] theorem fl48_2 : fldT Try.prog 48 2 = some (2, 30) := by rfl
@[simp] theorem fl48_3 : fldT Try.prog 48 3 = some (3, 38) := by rfl
@[simp] theorem fo48 : fieldsOk Try.prog 48 = true := by rfl
@[simp] theorem z48 : zeroT' Try.prog 48 = some [.v (.int .i64 0), .sl false 0 [] [] true, .sl false 0 [] [] true, .sl false 0 [] [] true] := by rfl
@[simp] theorem ty49 : tyI Try.prog 49 = some ⟨1, 24, false⟩ := by rfl
@[simp] theorem us49 : (Try.prog.underlying 49).isSome = true := by rfl
@[simp] theorem el49 : elT Try.prog 49 = some 93 := by rfl
@[simp] theorem z49 : zeroT' Try.prog 49 = some [.sl false 0 [] [] true] := by rfl
@[simp] theorem ty64 : tyI Try.prog 64 = some ⟨1, 24, false⟩ := by rfl
@[simp] theorem us64 : (Try.prog.underlying 64).isSome = true := by rfl
@[simp] theorem el64 : elT Try.prog 64 = some 49 := by rfl
@[simp] theorem z64 : zeroT' Try.prog 64 = some [.sl false 0 [] [] true] := by rfl
@[simp] theorem ty79 : tyI Try.prog 79 = some ⟨1, 24, false⟩ := by rfl
@[simp] theorem us79 : (Try.prog.underlying 79).isSome = true := by rfl
@[simp] theorem el79 : elT Try.prog 79 = some 95 := by rfl
@[simp] theorem z79 : zeroT' Try.prog 79 = some [.sl false 0 [] [] true] := by rfl
@[simp] theorem ty80 : tyI Try.prog 80 = some ⟨1, 8, false⟩ := by rfl
@[simp] theorem us80 : (Try.prog.underlying 80).isSome = true := by rfl
@[simp] theorem z80 : zeroT' Try.prog 80 = some [.v (.pointer none)] := by rfl
@[simp] theorem ty83 : tyI Try.prog 83 = some ⟨1, 8, false⟩ := by rfl
@[simp] theorem us83 : (Try.prog.underlying 83).isSome = true := by rfl
@[simp] theorem z83 : zeroT' Try.prog 83 = some [.v (.pointer none)] := by rfl
@[simp] theorem ty88 : tyI Try.prog 88 = some ⟨1, 24, false⟩ := by rfl
@[simp] theorem us88 : (Try.prog.underlying 88).isSome = true := by rfl
@[simp] theorem el88 : elT Try.prog 88 = some 80 := by rfl
@[simp] theorem z88 : zeroT' Try.prog 88 = some [.sl false 0 [] [] true] := by rfl
@[simp] theorem ty89 : tyI Try.prog 89 = some ⟨5, 104, true⟩ := by rfl
@[simp] theorem us89 : (Try.prog.underlying 89).isSome = true := by rfl
@[simp] theorem fl89_0 : fldT Try.prog 89 0 = some (0, 48) := by rfl
@[simp] theorem fl89_1 : fldT Try.prog 89 1 = some (4, 49) := by rfl
@[simp] theorem fo89 : fieldsOk Try.prog 89 = true := by rfl
@[simp] theorem z89 : zeroT' Try.prog 89 = some [.v (.int .i64 0), .sl false 0 [] [] true, .sl false 0 [] [] true, .sl false 0 [] [] true, .sl false 0 [] [] true] := by rfl
@[simp] theorem ty90 : tyI Try.prog 90 = some ⟨5, 104, true⟩ := by rfl
@[simp] theorem us90 : (Try.prog.underlying 90).isSome = true := by rfl
@[simp] theorem fl90_0 : fldT Try.prog 90 0 = some (0, 48) := by rfl
@[simp] theorem fl90_1 : fldT Try.prog 90 1 = some (4, 49) := by rfl
@[simp] theorem fo90 : fieldsOk Try.prog 90 = true := by rfl
@[simp] theorem z90 : zeroT' Try.prog 90 = some [.v (.int .i64 0), .sl false 0 [] [] true, .sl false 0 [] [] true, .sl false 0 [] [] true, .sl false 0 [] [] true] := by rfl
@[simp] theorem ty91 : tyI Try.prog 91 = some ⟨1, 24, false⟩ := by rfl
@[simp] theorem us91 : (Try.prog.underlying 91).isSome = true := by rfl
@[simp] theorem el91 : elT Try.prog 91 = some 83 := by rfl
@[simp] theorem z91 : zeroT' Try.prog 91 = some [.sl false 0 [] [] true] := by rfl
@[simp] theorem ty93 : tyI Try.prog 93 = some ⟨1, 1, false⟩ := by rfl
@[simp] theorem us93 : (Try.prog.underlying 93).isSome = true := by rfl
@[simp] theorem it93 : intT Try.prog 93 = some .u8 := by rfl
@[simp] theorem z93 : zeroT' Try.prog 93 = some [.v (.int .u8 0)] := by rfl
@[simp] theorem ty94 : tyI Try.prog 94 = some ⟨3, 3, true⟩ := by rfl
@[simp] theorem us94 : (Try.prog.underlying 94).isSome = true := by rfl
@[simp] theorem fl94_0 : fldT Try.prog 94 0 = some (0, 5) := by rfl
@[simp] theorem fl94_1 : fldT Try.prog 94 1 = some (1, 5) := by rfl
@[simp] theorem fl94_2 : fldT Try.prog 94 2 = some (2, 93) := by rfl
@[simp] theorem fo94 : fieldsOk Try.prog 94 = true := by rfl
@[simp] theorem z94 : zeroT' Try.prog 94 = some [.v (.int .u8 0), .v (.int .u8 0), .v (.int .u8 0)] := by rfl
@[simp] theorem ty95 : tyI Try.prog 95 = some ⟨3, 3, true⟩ := by rfl
@[simp] theorem us95 : (Try.prog.underlying 95).isSome = true := by rfl
@[simp] theorem fl95_0 : fldT Try.prog 95 0 = some (0, 5) := by rfl
@[simp] theorem fl95_1 : fldT Try.prog 95 1 = some (1, 5) := by rfl
@[simp] theorem fl95_2 : fldT Try.prog 95 2 = some (2, 93) := by rfl
@[simp] theorem fo95 : fieldsOk Try.prog 95 = true := by rfl
@[simp] theorem z95 : zeroT' Try.prog 95 = some [.v (.int .u8 0), .v (.int .u8 0), .v (.int .u8 0)] := by rfl
@[simp] theorem ty103 : tyI Try.prog 103 = some ⟨1, 24, false⟩ := by rfl
@[simp] theorem us103 : (Try.prog.underlying 103).isSome = true := by rfl
@[simp] theorem el103 : elT Try.prog 103 = some 48 := by rfl
@[simp] theorem z103 : zeroT' Try.prog 103 = some [.sl false 0 [] [] true] := by rfl
@[simp] theorem ty110 : tyI Try.prog 110 = some ⟨1, 8, false⟩ := by rfl
@[simp] theorem us110 : (Try.prog.underlying 110).isSome = true := by rfl
@[simp] theorem z110 : zeroT' Try.prog 110 = some [.v (.map none)] := by rfl
@[simp] theorem ty111 : tyI Try.prog 111 = some ⟨3, 40, true⟩ := by rfl
@[simp] theorem us111 : (Try.prog.underlying 111).isSome = true := by rfl
@[simp] theorem fl111_0 : fldT Try.prog 111 0 = some (0, 3) := by rfl
@[simp] theorem fl111_1 : fldT Try.prog 111 1 = some (1, 38) := by rfl
@[simp] theorem fl111_2 : fldT Try.prog 111 2 = some (2, 110) := by rfl
@[simp] theorem fo111 : fieldsOk Try.prog 111 = true := by rfl
@[simp] theorem z111 : zeroT' Try.prog 111 = some [.v (.int .i64 0), .sl false 0 [] [] true, .v (.map none)] := by rfl
@[simp] theorem ty112 : tyI Try.prog 112 = some ⟨3, 40, true⟩ := by rfl
@[simp] theorem us112 : (Try.prog.underlying 112).isSome = true := by rfl
@[simp] theorem fl112_0 : fldT Try.prog 112 0 = some (0, 3) := by rfl
@[simp] theorem fl112_1 : fldT Try.prog 112 1 = some (1, 38) := by rfl
@[simp] theorem fl112_2 : fldT Try.prog 112 2 = some (2, 110) := by rfl
@[simp] theorem fo112 : fieldsOk Try.prog 112 = true := by rfl
@[simp] theorem z112 : zeroT' Try.prog 112 = some [.v (.int .i64 0), .sl false 0 [] [] true, .v (.map none)] := by rfl
@[simp] theorem ty130 : tyI Try.prog 130 = some ⟨4, 32, true⟩ := by rfl
@[simp] theorem us130 : (Try.prog.underlying 130).isSome = true := by rfl
@[simp] theorem fl130_0 : fldT Try.prog 130 0 = some (0, 3) := by rfl
@[simp] theorem fl130_1 : fldT Try.prog 130 1 = some (1, 3) := by rfl
@[simp] theorem fl130_2 : fldT Try.prog 130 2 = some (2, 3) := by rfl
@[simp] theorem fl130_3 : fldT Try.prog 130 3 = some (3, 93) := by rfl
@[simp] theorem fo130 : fieldsOk Try.prog 130 = true := by rfl
@[simp] theorem z130 : zeroT' Try.prog 130 = some [.v (.int .i64 0), .v (.int .i64 0), .v (.int .i64 0), .v (.int .u8 0)] := by rfl
@[simp] theorem ty131 : tyI Try.prog 131 = some ⟨4, 32, true⟩ := by rfl
@[simp] theorem us131 : (Try.prog.underlying 131).isSome = true := by rfl
@[simp] theorem fl131_0 : fldT Try.prog 131 0 = some (0, 3) := by rfl
@[simp] theorem fl131_1 : fldT Try.prog 131 1 = some (1, 3) := by rfl
@[simp] theorem fl131_2 : fldT Try.prog 131 2 = some (2, 3) := by rfl
@[simp] theorem fl131_3 : fldT Try.prog 131 3 = some (3, 93) := by rfl
@[simp] theorem fo131 : fieldsOk Try.prog 131 = true := by rfl
@[simp] theorem z131 : zeroT' Try.prog 131 = some [.v (.int .i64 0), .v (.int .i64 0), .v (.int .i64 0), .v (.int .u8 0)] := by rfl
@[simp] theorem ty132 : tyI Try.prog 132 = some ⟨1, 24, false⟩ := by rfl
@[simp] theorem us132 : (Try.prog.underlying 132).isSome = true := by rfl
@[simp] theorem el132 : elT Try.prog 132 = some 131 := by rfl
@[simp] theorem z132 : zeroT' Try.prog 132 = some [.sl false 0 [] [] true] := by rfl
@[simp] theorem ty133 : tyI Try.prog 133 = some ⟨2, 16, true⟩ := by rfl
@[simp] theorem us133 : (Try.prog.underlying 133).isSome = true := by rfl
@[simp] theorem z133 : zeroT' Try.prog 133 = some [.v (.int .i64 0), .v (.int .i64 0)] := by rfl
@[simp] theorem ty134 : tyI Try.prog 134 = some ⟨1, 8, false⟩ := by rfl
@[simp] theorem us134 : (Try.prog.underlying 134).isSome = true := by rfl
@[simp] theorem z134 : zeroT' Try.prog 134 = some [.v (.map none)] := by rfl
@[simp] theorem ty135 : tyI Try.prog 135 = some ⟨3, 40, true⟩ := by rfl
@[simp] theorem us135 : (Try.prog.underlying 135).isSome = true := by rfl
@[simp] theorem fl135_0 : fldT Try.prog 135 0 = some (0, 3) := by rfl
@[simp] theorem fl135_1 : fldT Try.prog 135 1 = some (1, 3) := by rfl
@[simp] theorem fl135_2 : fldT Try.prog 135 2 = some (2, 49) := by rfl
@[simp] theorem fo135 : fieldsOk Try.prog 135 = true := by rfl
@[simp] theorem z135 : zeroT' Try.prog 135 = some [.v (.int .i64 0), .v (.int .i64 0), .sl false 0 [] [] true] := by rfl
@[simp] theorem ty136 : tyI Try.prog 136 = some ⟨3, 40, true⟩ := by rfl
@[simp] theorem us136 : (Try.prog.underlying 136).isSome = true := by rfl
@[simp] theorem fl136_0 : fldT Try.prog 136 0 = some (0, 3) := by rfl
@[simp] theorem fl136_1 : fldT Try.prog 136 1 = some (1, 3) := by rfl
@[simp] theorem fl136_2 : fldT Try.prog 136 2 = some (2, 49) := by rfl
@[simp] theorem fo136 : fieldsOk Try.prog 136 = true := by rfl
@[simp] theorem z136 : zeroT' Try.prog 136 = some [.v (.int .i64 0), .v (.int .i64 0), .sl false 0 [] [] true] := by rfl
@[simp] theorem ty137 : tyI Try.prog 137 = some ⟨1, 24, false⟩ := by rfl
@[simp] theorem us137 : (Try.prog.underlying 137).isSome = true := by rfl
@[simp] theorem el137 : elT Try.prog 137 = some 136 := by rfl
@[simp] theorem z137 : zeroT' Try.prog 137 = some [.sl false 0 [] [] true] := by rfl
@[simp] theorem ty139 : tyI Try.prog 139 = some ⟨1, 8, false⟩ := by rfl
@[simp] theorem us139 : (Try.prog.underlying 139).isSome = true := by rfl
@[simp] theorem z139 : zeroT' Try.prog 139 = some [.v (.pointer none)] := by rfl
@[simp] theorem ty141 : tyI Try.prog 141 = some ⟨2, 32, true⟩ := by rfl
@[simp] theorem us141 : (Try.prog.underlying 141).isSome = true := by rfl
@[simp] theorem fl141_0 : fldT Try.prog 141 0 = some (0, 139) := by rfl
@[simp] theorem fl141_1 : fldT Try.prog 141 1 = some (1, 30) := by rfl
@[simp] theorem fo141 : fieldsOk Try.prog 141 = true := by rfl
@[simp] theorem z141 : zeroT' Try.prog 141 = some [.v (.pointer none), .sl false 0 [] [] true] := by rfl
@[simp] theorem ty142 : tyI Try.prog 142 = some ⟨2, 32, true⟩ := by rfl
@[simp] theorem us142 : (Try.prog.underlying 142).isSome = true := by rfl
@[simp] theorem fl142_0 : fldT Try.prog 142 0 = some (0, 139) := by rfl
@[simp] theorem fl142_1 : fldT Try.prog 142 1 = some (1, 30) := by rfl
@[simp] theorem fo142 : fieldsOk Try.prog 142 = true := by rfl
@[simp] theorem z142 : zeroT' Try.prog 142 = some [.v (.pointer none), .sl false 0 [] [] true] := by rfl
@[simp] theorem ty143 : tyI Try.prog 143 = some ⟨1, 1, false⟩ := by rfl
@[simp] theorem us143 : (Try.prog.underlying 143).isSome = true := by rfl
@[simp] theorem it143 : intT Try.prog 143 = some .u8 := by rfl
@[simp] theorem z143 : zeroT' Try.prog 143 = some [.v (.int .u8 0)] := by rfl
@[simp] theorem ty160 : tyI Try.prog 160 = some ⟨3, 24, true⟩ := by rfl
@[simp] theorem us160 : (Try.prog.underlying 160).isSome = true := by rfl
@[simp] theorem fl160_0 : fldT Try.prog 160 0 = some (0, 3) := by rfl
@[simp] theorem fl160_1 : fldT Try.prog 160 1 = some (1, 3) := by rfl
@[simp] theorem fl160_2 : fldT Try.prog 160 2 = some (2, 4) := by rfl
@[simp] theorem fo160 : fieldsOk Try.prog 160 = true := by rfl
@[simp] theorem z160 : zeroT' Try.prog 160 = some [.v (.int .i64 0), .v (.int .i64 0), .v (.bool false)] := by rfl
@[simp] theorem ty161 : tyI Try.prog 161 = some ⟨3, 24, true⟩ := by rfl
@[simp] theorem us161 : (Try.prog.underlying 161).isSome = true := by rfl
@[simp] theorem fl161_0 : fldT Try.prog 161 0 = some (0, 3) := by rfl
@[simp] theorem fl161_1 : fldT Try.prog 161 1 = some (1, 3) := by rfl
@[simp] theorem fl161_2 : fldT Try.prog 161 2 = some (2, 4) := by rfl
@[simp] theorem fo161 : fieldsOk Try.prog 161 = true := by rfl
@[simp] theorem z161 : zeroT' Try.prog 161 = some [.v (.int .i64 0), .v (.int .i64 0), .v (.bool false)] := by rfl
@[simp] theorem ty162 : tyI Try.prog 162 = some ⟨1, 24, false⟩ := by rfl
@[simp] theorem us162 : (Try.prog.underlying 162).isSome = true := by rfl
@[simp] theorem el162 : elT Try.prog 162 = some 161 := by rfl
@[simp] theorem z162 : zeroT' Try.prog 162 = some [.sl false 0 [] [] true] := by rfl
@[simp] theorem ty171 : tyI Try.prog 171 = some ⟨1, 8, false⟩ := by rfl
@[simp] theorem us171 : (Try.prog.underlying 171).isSome = true := by rfl
@[simp] theorem z171 : zeroT' Try.prog 171 = some [.v (.map none)] := by rfl
@[simp] theorem ty172 : tyI Try.prog 172 = some ⟨257, 2056, true⟩ := by rfl
@[simp] theorem us172 : (Try.prog.underlying 172).isSome = true := by rfl
@[simp] theorem ty173 : tyI Try.prog 173 = some ⟨257, 2056, true⟩ := by rfl
@[simp] theorem us173 : (Try.prog.underlying 173).isSome = true := by rfl
@[simp] theorem ty175 : tyI Try.prog 175 = some ⟨1, 8, false⟩ := by rfl
@[simp] theorem us175 : (Try.prog.underlying 175).isSome = true := by rfl
@[simp] theorem z175 : zeroT' Try.prog 175 = some [.v (.map none)] := by rfl
@[simp] theorem ty176 : tyI Try.prog 176 = some ⟨1, 24, false⟩ := by rfl
@[simp] theorem us176 : (Try.prog.underlying 176).isSome = true := by rfl
@[simp] theorem el176 : elT Try.prog 176 = some 143 := by rfl
@[simp] theorem z176 : zeroT' Try.prog 176 = some [.sl false 0 [] [] true] := by rfl
@[simp] theorem ty177 : tyI Try.prog 177 = some ⟨6, 128, true⟩ := by rfl
@[simp] theorem us177 : (Try.prog.underlying 177).isSome = true := by rfl
@[simp] theorem fl177_0 : fldT Try.prog 177 0 = some (0, 48) := by rfl
@[simp] theorem fl177_1 : fldT Try.prog 177 1 = some (4, 30) := by rfl
@[simp] theorem fl177_2 : fldT Try.prog 177 2 = some (5, 176) := by rfl
@[simp] theorem fo177 : fieldsOk Try.prog 177 = true := by rfl
@[simp] theorem z177 : zeroT' Try.prog 177 = some [.v (.int .i64 0), .sl false 0 [] [] true, .sl false 0 [] [] true, .sl false 0 [] [] true, .sl false 0 [] [] true, .sl false 0 [] [] true] := by rfl
@[simp] theorem ty178 : tyI Try.prog 178 = some ⟨6, 128, true⟩ := by rfl
@[simp] theorem us178 : (Try.prog.underlying 178).isSome = true := by rfl
@[simp] theorem fl178_0 : fldT Try.prog 178 0 = some (0, 48) := by rfl
@[simp] theorem fl178_1 : fldT Try.prog 178 1 = some (4, 30) := by rfl
@[simp] theorem fl178_2 : fldT Try.prog 178 2 = some (5, 176) := by rfl
@[simp] theorem fo178 : fieldsOk Try.prog 178 = true := by rfl
@[simp] theorem z178 : zeroT' Try.prog 178 = some [.v (.int .i64 0), .sl false 0 [] [] true, .sl false 0 [] [] true, .sl false 0 [] [] true, .sl false 0 [] [] true, .sl false 0 [] [] true] := by rfl
@[simp] theorem ty183 : tyI Try.prog 183 = some ⟨256, 2048, true⟩ := by rfl
@[simp] theorem us183 : (Try.prog.underlying 183).isSome = true := by rfl
@[simp] theorem ty184 : tyI Try.prog 184 = some ⟨1, 8, false⟩ := by rfl
@[simp] theorem us184 : (Try.prog.underlying 184).isSome = true := by rfl
@[simp] theorem z184 : zeroT' Try.prog 184 = some [.v (.pointer none)] := by rfl
@[simp] theorem ty186 : tyI Try.prog 186 = some ⟨1, 24, false⟩ := by rfl
@[simp] theorem us186 : (Try.prog.underlying 186).isSome = true := by rfl
@[simp] theorem el186 : elT Try.prog 186 = some 189 := by rfl
@[simp] theorem z186 : zeroT' Try.prog 186 = some [.sl false 0 [] [] true] := by rfl
@[simp] theorem ty187 : tyI Try.prog 187 = some ⟨4, 96, true⟩ := by rfl
@[simp] theorem us187 : (Try.prog.underlying 187).isSome = true := by rfl
@[simp] theorem fl187_0 : fldT Try.prog 187 0 = some (0, 186) := by rfl
@[simp] theorem fl187_1 : fldT Try.prog 187 1 = some (1, 22) := by rfl
@[simp] theorem fl187_2 : fldT Try.prog 187 2 = some (2, 30) := by rfl
@[simp] theorem fl187_3 : fldT Try.prog 187 3 = some (3, 49) := by rfl
@[simp] theorem fo187 : fieldsOk Try.prog 187 = true := by rfl
@[simp] theorem z187 : zeroT' Try.prog 187 = some [.sl false 0 [] [] true, .sl false 0 [] [] true, .sl false 0 [] [] true, .sl false 0 [] [] true] := by rfl
@[simp] theorem ty188 : tyI Try.prog 188 = some ⟨4, 96, true⟩ := by rfl
@[simp] theorem us188 : (Try.prog.underlying 188).isSome = true := by rfl
@[simp] theorem fl188_0 : fldT Try.prog 188 0 = some (0, 186) := by rfl
@[simp] theorem fl188_1 : fldT Try.prog 188 1 = some (1, 22) := by rfl
@[simp] theorem fl188_2 : fldT Try.prog 188 2 = some (2, 30) := by rfl
@[simp] theorem fl188_3 : fldT Try.prog 188 3 = some (3, 49) := by rfl
@[simp] theorem fo188 : fieldsOk Try.prog 188 = true := by rfl
@[simp] theorem z188 : zeroT' Try.prog 188 = some [.sl false 0 [] [] true, .sl false 0 [] [] true, .sl false 0 [] [] true, .sl false 0 [] [] true] := by rfl
@[simp] theorem ty189 : tyI Try.prog 189 = some ⟨2, 16, true⟩ := by rfl
@[simp] theorem us189 : (Try.prog.underlying 189).isSome = true := by rfl
@[simp] theorem z189 : zeroT' Try.prog 189 = some [.v (.int .i64 0), .v (.int .i64 0)] := by rfl
@[simp] theorem ty197 : tyI Try.prog 197 = some ⟨1, 8, false⟩ := by rfl
@[simp] theorem us197 : (Try.prog.underlying 197).isSome = true := by rfl
@[simp] theorem z197 : zeroT' Try.prog 197 = some [.v (.map none)] := by rfl
@[simp] theorem ty198 : tyI Try.prog 198 = some ⟨1, 8, false⟩ := by rfl
@[simp] theorem us198 : (Try.prog.underlying 198).isSome = true := by rfl
@[simp] theorem z198 : zeroT' Try.prog 198 = some [.v (.map none)] := by rfl
@[simp] theorem ty199 : tyI Try.prog 199 = some ⟨1, 24, false⟩ := by rfl
@[simp] theorem us199 : (Try.prog.underlying 199).isSome = true := by rfl
@[simp] theorem el199 : elT Try.prog 199 = some 21 := by rfl
@[simp] theorem z199 : zeroT' Try.prog 199 = some [.sl false 0 [] [] true] := by rfl
@[simp] theorem ty202 : tyI Try.prog 202 = some ⟨1, 24, false⟩ := by rfl
@[simp] theorem us202 : (Try.prog.underlying 202).isSome = true := by rfl
@[simp] theorem el202 : elT Try.prog 202 = some 5 := by rfl
@[simp] theorem z202 : zeroT' Try.prog 202 = some [.sl false 0 [] [] true] := by rfl
@[simp] theorem ty203 : tyI Try.prog 203 = some ⟨1, 8, false⟩ := by rfl
@[simp] theorem us203 : (Try.prog.underlying 203).isSome = true := by rfl
@[simp] theorem it203 : intT Try.prog 203 = some .u64 := by rfl
@[simp] theorem z203 : zeroT' Try.prog 203 = some [.v (.int .u64 0)] := by rfl
@[simp] theorem ty207 : tyI Try.prog 207 = some ⟨0, 0, true⟩ := by rfl
@[simp] theorem us207 : (Try.prog.underlying 207).isSome = true := by rfl
@[simp] theorem z207 : zeroT' Try.prog 207 = some [] := by rfl
@[simp] theorem ty208 : tyI Try.prog 208 = some ⟨0, 0, true⟩ := by rfl
@[simp] theorem us208 : (Try.prog.underlying 208).isSome = true := by rfl
@[simp] theorem fl208_0 : fldT Try.prog 208 0 = some (0, 207) := by rfl
@[simp] theorem fo208 : fieldsOk Try.prog 208 = true := by rfl
@[simp] theorem z208 : zeroT' Try.prog 208 = some [] := by rfl
@[simp] theorem ty209 : tyI Try.prog 209 = some ⟨0, 0, true⟩ := by rfl
@[simp] theorem us209 : (Try.prog.underlying 209).isSome = true := by rfl
@[simp] theorem fl209_0 : fldT Try.prog 209 0 = some (0, 207) := by rfl
@[simp] theorem fo209 : fieldsOk Try.prog 209 = true := by rfl
@[simp] theorem z209 : zeroT' Try.prog 209 = some [] := by rfl
@[simp] theorem ty210 : tyI Try.prog 210 = some ⟨1, 4, false⟩ := by rfl
@[simp] theorem us210 : (Try.prog.underlying 210).isSome = true := by rfl
@[simp] theorem it210 : intT Try.prog 210 = some .u32 := by rfl
@[simp] theorem z210 : zeroT' Try.prog 210 = some [.v (.int .u32 0)] := by rfl
@[simp] theorem ty211 : tyI Try.prog 211 = some ⟨1, 1, false⟩ := by rfl
@[simp] theorem us211 : (Try.prog.underlying 211).isSome = true := by rfl
@[simp] theorem it211 : intT Try.prog 211 = some .u8 := by rfl
@[simp] theorem z211 : zeroT' Try.prog 211 = some [.v (.int .u8 0)] := by rfl
@[simp] theorem ty212 : tyI Try.prog 212 = some ⟨1, 1, false⟩ := by rfl
@[simp] theorem us212 : (Try.prog.underlying 212).isSome = true := by rfl
@[simp] theorem it212 : intT Try.prog 212 = some .u8 := by rfl
@[simp] theorem z212 : zeroT' Try.prog 212 = some [.v (.int .u8 0)] := by rfl
@[simp] theorem ty214 : tyI Try.prog 214 = some ⟨1, 8, false⟩ := by rfl
@[simp] theorem us214 : (Try.prog.underlying 214).isSome = true := by rfl
@[simp] theorem z214 : zeroT' Try.prog 214 = some [.v (.pointer none)] := by rfl
@[simp] theorem ty215 : tyI Try.prog 215 = some ⟨1, 4, false⟩ := by rfl
@[simp] theorem us215 : (Try.prog.underlying 215).isSome = true := by rfl
@[simp] theorem it215 : intT Try.prog 215 = some .i32 := by rfl
@[simp] theorem z215 : zeroT' Try.prog 215 = some [.v (.int .i32 0)] := by rfl
@[simp] theorem ty216 : tyI Try.prog 216 = some ⟨1, 4, false⟩ := by rfl
@[simp] theorem us216 : (Try.prog.underlying 216).isSome = true := by rfl
@[simp] theorem it216 : intT Try.prog 216 = some .i32 := by rfl
@[simp] theorem z216 : zeroT' Try.prog 216 = some [.v (.int .i32 0)] := by rfl
@[simp] theorem ty217 : tyI Try.prog 217 = some ⟨11, 48, true⟩ := by rfl
@[simp] theorem us217 : (Try.prog.underlying 217).isSome = true := by rfl
@[simp] theorem fl217_0 : fldT Try.prog 217 0 = some (0, 12) := by rfl
@[simp] theorem fl217_1 : fldT Try.prog 217 1 = some (1, 12) := by rfl
@[simp] theorem fl217_2 : fldT Try.prog 217 2 = some (2, 210) := by rfl
@[simp] theorem fl217_3 : fldT Try.prog 217 3 = some (3, 211) := by rfl
@[simp] theorem fl217_4 : fldT Try.prog 217 4 = some (4, 5) := by rfl
@[simp] theorem fl217_5 : fldT Try.prog 217 5 = some (5, 5) := by rfl
@[simp] theorem fl217_6 : fldT Try.prog 217 6 = some (6, 212) := by rfl
@[simp] theorem fl217_7 : fldT Try.prog 217 7 = some (7, 213) := by rfl
@[simp] theorem fl217_8 : fldT Try.prog 217 8 = some (8, 214) := by rfl
@[simp] theorem fl217_9 : fldT Try.prog 217 9 = some (9, 215) := by rfl
@[simp] theorem fl217_10 : fldT Try.prog 217 10 = some (10, 216) := by rfl
@[simp] theorem fo217 : fieldsOk Try.prog 217 = true := by rfl
@[simp] theorem ty218 : tyI Try.prog 218 = some ⟨11, 48, true⟩ := by rfl
@[simp] theorem us218 : (Try.prog.underlying 218).isSome = true := by rfl
@[simp] theorem fl218_0 : fldT Try.prog 218 0 = some (0, 12) := by rfl
@[simp] theorem fl218_1 : fldT Try.prog 218 1 = some (1, 12) := by rfl
@[simp] theorem fl218_2 : fldT Try.prog 218 2 = some (2, 210) := by rfl
@[simp] theorem fl218_3 : fldT Try.prog 218 3 = some (3, 211) := by rfl
@[simp] theorem fl218_4 : fldT Try.prog 218 4 = some (4, 5) := by rfl
@[simp] theorem fl218_5 : fldT Try.prog 218 5 = some (5, 5) := by rfl
@[simp] theorem fl218_6 : fldT Try.prog 218 6 = some (6, 212) := by rfl
@[simp] theorem fl218_7 : fldT Try.prog 218 7 = some (7, 213) := by rfl
@[simp] theorem fl218_8 : fldT Try.prog 218 8 = some (8, 214) := by rfl
@[simp] theorem fl218_9 : fldT Try.prog 218 9 = some (9, 215) := by rfl
@[simp] theorem fl218_10 : fldT Try.prog 218 10 = some (10, 216) := by rfl
@[simp] theorem fo218 : fieldsOk Try.prog 218 = true := by rfl
@[simp] theorem ty219 : tyI Try.prog 219 = some ⟨1, 8, false⟩ := by rfl
@[simp] theorem us219 : (Try.prog.underlying 219).isSome = true := by rfl
@[simp] theorem z219 : zeroT' Try.prog 219 = some [.v (.pointer none)] := by rfl
end Go.Proofs.Ytjjmomkjjdilnaa.T
