/- Facts of the program's tables: sizes, places of fields, zero values, functions with a body; each by computation. -/
import Derived.Test.YtppoepenmpcbnaaJ10
import Derived.Test.YtppoepenmpcbnaaProg
import Derived.KernelRfl
namespace Go.Proofs.Ytppoepenmpcbnaa.J
open Go Go.RowKit

theorem ty0 : tySz Try.prog 0 = some (false, 1, 0) := by kernel_rfl
theorem us0 : (Try.prog.underlying 0).isSome = true := by kernel_rfl
theorem ty1 : tySz Try.prog 1 = some (false, 1, 8) := by kernel_rfl
theorem us1 : (Try.prog.underlying 1).isSome = true := by kernel_rfl
abbrev et1 : ETy := ⟨1, 8⟩
theorem el1 : elemB Try.prog 1 et1 = true := by kernel_rfl
theorem z1 : zeroCells Try.prog 1 = some [.nilFunc] := by kernel_rfl
theorem ty2 : tySz Try.prog 2 = some (false, 1, 8) := by kernel_rfl
theorem us2 : (Try.prog.underlying 2).isSome = true := by kernel_rfl
theorem iu2 : Try.prog.underlying 2 = some (.int .i64) := by kernel_rfl
abbrev et2 : ETy := ⟨1, 8⟩
theorem el2 : elemB Try.prog 2 et2 = true := by kernel_rfl
theorem z2 : zeroCells Try.prog 2 = some [.int .i64 0] := by kernel_rfl
theorem ty3 : tySz Try.prog 3 = some (false, 1, 8) := by kernel_rfl
theorem us3 : (Try.prog.underlying 3).isSome = true := by kernel_rfl
theorem iu3 : Try.prog.underlying 3 = some (.int .i64) := by kernel_rfl
abbrev et3 : ETy := ⟨1, 8⟩
theorem el3 : elemB Try.prog 3 et3 = true := by kernel_rfl
theorem z3 : zeroCells Try.prog 3 = some [.int .i64 0] := by kernel_rfl
theorem ty4 : tySz Try.prog 4 = some (false, 1, 1) := by kernel_rfl
theorem us4 : (Try.prog.underlying 4).isSome = true := by kernel_rfl
theorem bo4 : Try.prog.underlying 4 = some .bool := by kernel_rfl
abbrev et4 : ETy := ⟨1, 1⟩
theorem el4 : elemB Try.prog 4 et4 = true := by kernel_rfl
theorem z4 : zeroCells Try.prog 4 = some [.bool false] := by kernel_rfl
theorem ty5 : tySz Try.prog 5 = some (false, 1, 1) := by kernel_rfl
theorem us5 : (Try.prog.underlying 5).isSome = true := by kernel_rfl
theorem iu5 : Try.prog.underlying 5 = some (.int .u8) := by kernel_rfl
abbrev et5 : ETy := ⟨1, 1⟩
theorem el5 : elemB Try.prog 5 et5 = true := by kernel_rfl
theorem z5 : zeroCells Try.prog 5 = some [.int .u8 0] := by kernel_rfl
theorem ty6 : tySz Try.prog 6 = some (false, 1, 1) := by kernel_rfl
theorem us6 : (Try.prog.underlying 6).isSome = true := by kernel_rfl
theorem iu6 : Try.prog.underlying 6 = some (.int .u8) := by kernel_rfl
abbrev et6 : ETy := ⟨1, 1⟩
theorem el6 : elemB Try.prog 6 et6 = true := by kernel_rfl
theorem z6 : zeroCells Try.prog 6 = some [.int .u8 0] := by kernel_rfl
theorem ty7 : tySz Try.prog 7 = some (true, 4, 24) := by kernel_rfl
theorem us7 : (Try.prog.underlying 7).isSome = true := by kernel_rfl
theorem pl7 : placesOf Try.prog 7 = some [(0, 1), (1, 1), (2, 1), (3, 1)] := by kernel_rfl
theorem fo7_0 : fieldOff Try.prog 7 0 = some 0 := by kernel_rfl
theorem fo7_1 : fieldOff Try.prog 7 1 = some 1 := by kernel_rfl
theorem fo7_2 : fieldOff Try.prog 7 2 = some 2 := by kernel_rfl
theorem fo7_3 : fieldOff Try.prog 7 3 = some 3 := by kernel_rfl
abbrev et7 : ETy := ⟨4, 24⟩
theorem el7 : elemB Try.prog 7 et7 = true := by kernel_rfl
theorem z7 : zeroCells Try.prog 7 = some [.int .i64 0, .int .i64 0, .bool false, .int .u8 0] := by kernel_rfl
theorem ty8 : tySz Try.prog 8 = some (true, 4, 24) := by kernel_rfl
theorem us8 : (Try.prog.underlying 8).isSome = true := by kernel_rfl
theorem pl8 : placesOf Try.prog 8 = some [(0, 1), (1, 1), (2, 1), (3, 1)] := by kernel_rfl
theorem fo8_0 : fieldOff Try.prog 8 0 = some 0 := by kernel_rfl
theorem fo8_1 : fieldOff Try.prog 8 1 = some 1 := by kernel_rfl
theorem fo8_2 : fieldOff Try.prog 8 2 = some 2 := by kernel_rfl
theorem fo8_3 : fieldOff Try.prog 8 3 = some 3 := by kernel_rfl
abbrev et8 : ETy := ⟨4, 24⟩
theorem el8 : elemB Try.prog 8 et8 = true := by kernel_rfl
theorem z8 : zeroCells Try.prog 8 = some [.int .i64 0, .int .i64 0, .bool false, .int .u8 0] := by kernel_rfl
theorem ty9 : tySz Try.prog 9 = some (false, 1, 16) := by kernel_rfl
theorem us9 : (Try.prog.underlying 9).isSome = true := by kernel_rfl
theorem st9 : Try.prog.underlying 9 = some .string := by kernel_rfl
abbrev et9 : ETy := ⟨1, 16⟩
theorem el9 : elemB Try.prog 9 et9 = true := by kernel_rfl
theorem z9 : zeroCells Try.prog 9 = some [str []] := by kernel_rfl
theorem ty10 : tySz Try.prog 10 = some (false, 1, 16) := by kernel_rfl
theorem us10 : (Try.prog.underlying 10).isSome = true := by kernel_rfl
theorem st10 : Try.prog.underlying 10 = some .string := by kernel_rfl
abbrev et10 : ETy := ⟨1, 16⟩
theorem el10 : elemB Try.prog 10 et10 = true := by kernel_rfl
theorem z10 : zeroCells Try.prog 10 = some [str []] := by kernel_rfl
theorem ty11 : tySz Try.prog 11 = some (false, 1, 16) := by kernel_rfl
theorem us11 : (Try.prog.underlying 11).isSome = true := by kernel_rfl
theorem st11 : Try.prog.underlying 11 = some .string := by kernel_rfl
abbrev et11 : ETy := ⟨1, 16⟩
theorem el11 : elemB Try.prog 11 et11 = true := by kernel_rfl
theorem z11 : zeroCells Try.prog 11 = some [str []] := by kernel_rfl
theorem ty12 : tySz Try.prog 12 = some (false, 1, 8) := by kernel_rfl
theorem us12 : (Try.prog.underlying 12).isSome = true := by kernel_rfl
theorem iu12 : Try.prog.underlying 12 = some (.int .u64) := by kernel_rfl
abbrev et12 : ETy := ⟨1, 8⟩
theorem el12 : elemB Try.prog 12 et12 = true := by kernel_rfl
theorem z12 : zeroCells Try.prog 12 = some [.int .u64 0] := by kernel_rfl
theorem ty13 : tySz Try.prog 13 = some (true, 2, 24) := by kernel_rfl
theorem us13 : (Try.prog.underlying 13).isSome = true := by kernel_rfl
theorem pl13 : placesOf Try.prog 13 = some [(0, 1), (1, 1)] := by kernel_rfl
theorem fo13_0 : fieldOff Try.prog 13 0 = some 0 := by kernel_rfl
theorem fo13_1 : fieldOff Try.prog 13 1 = some 1 := by kernel_rfl
abbrev et13 : ETy := ⟨2, 24⟩
theorem el13 : elemB Try.prog 13 et13 = true := by kernel_rfl
theorem z13 : zeroCells Try.prog 13 = some [str [], .int .u64 0] := by kernel_rfl
theorem ty14 : tySz Try.prog 14 = some (true, 2, 24) := by kernel_rfl
theorem us14 : (Try.prog.underlying 14).isSome = true := by kernel_rfl
theorem pl14 : placesOf Try.prog 14 = some [(0, 1), (1, 1)] := by kernel_rfl
theorem fo14_0 : fieldOff Try.prog 14 0 = some 0 := by kernel_rfl
theorem fo14_1 : fieldOff Try.prog 14 1 = some 1 := by kernel_rfl
abbrev et14 : ETy := ⟨2, 24⟩
theorem el14 : elemB Try.prog 14 et14 = true := by kernel_rfl
theorem z14 : zeroCells Try.prog 14 = some [str [], .int .u64 0] := by kernel_rfl
theorem ty15 : tySz Try.prog 15 = some (false, 1, 8) := by kernel_rfl
theorem us15 : (Try.prog.underlying 15).isSome = true := by kernel_rfl
abbrev et15 : ETy := ⟨1, 8⟩
theorem el15 : elemB Try.prog 15 et15 = true := by kernel_rfl
theorem z15 : zeroCells Try.prog 15 = some [.pointer none] := by kernel_rfl
theorem ty16 : tySz Try.prog 16 = some (false, 1, 8) := by kernel_rfl
theorem us16 : (Try.prog.underlying 16).isSome = true := by kernel_rfl
abbrev et16 : ETy := ⟨1, 8⟩
theorem el16 : elemB Try.prog 16 et16 = true := by kernel_rfl
theorem z16 : zeroCells Try.prog 16 = some [.pointer none] := by kernel_rfl
theorem ty17 : tySz Try.prog 17 = some (false, 1, 8) := by kernel_rfl
theorem us17 : (Try.prog.underlying 17).isSome = true := by kernel_rfl
abbrev et17 : ETy := ⟨1, 8⟩
theorem el17 : elemB Try.prog 17 et17 = true := by kernel_rfl
theorem z17 : zeroCells Try.prog 17 = some [.pointer none] := by kernel_rfl
theorem ty18 : tySz Try.prog 18 = some (true, 1, 8) := by kernel_rfl
theorem us18 : (Try.prog.underlying 18).isSome = true := by kernel_rfl
theorem pl18 : placesOf Try.prog 18 = some [(0, 1)] := by kernel_rfl
theorem fo18_0 : fieldOff Try.prog 18 0 = some 0 := by kernel_rfl
abbrev et18 : ETy := ⟨1, 8⟩
theorem el18 : elemB Try.prog 18 et18 = true := by kernel_rfl
theorem z18 : zeroCells Try.prog 18 = some [.pointer none] := by kernel_rfl
theorem ty19 : tySz Try.prog 19 = some (true, 1, 8) := by kernel_rfl
theorem us19 : (Try.prog.underlying 19).isSome = true := by kernel_rfl
theorem pl19 : placesOf Try.prog 19 = some [(0, 1)] := by kernel_rfl
theorem fo19_0 : fieldOff Try.prog 19 0 = some 0 := by kernel_rfl
abbrev et19 : ETy := ⟨1, 8⟩
theorem el19 : elemB Try.prog 19 et19 = true := by kernel_rfl
theorem z19 : zeroCells Try.prog 19 = some [.pointer none] := by kernel_rfl
theorem ty20 : tySz Try.prog 20 = some (false, 1, 16) := by kernel_rfl
theorem us20 : (Try.prog.underlying 20).isSome = true := by kernel_rfl
abbrev et20 : ETy := ⟨1, 16⟩
theorem el20 : elemB Try.prog 20 et20 = true := by kernel_rfl
theorem z20 : zeroCells Try.prog 20 = some [.nilIface] := by kernel_rfl
theorem ty21 : tySz Try.prog 21 = some (false, 1, 4) := by kernel_rfl
theorem us21 : (Try.prog.underlying 21).isSome = true := by kernel_rfl
theorem iu21 : Try.prog.underlying 21 = some (.int .i32) := by kernel_rfl
abbrev et21 : ETy := ⟨1, 4⟩
theorem el21 : elemB Try.prog 21 et21 = true := by kernel_rfl
theorem z21 : zeroCells Try.prog 21 = some [.int .i32 0] := by kernel_rfl
theorem ty22 : tySz Try.prog 22 = some (false, 1, 8) := by kernel_rfl
theorem us22 : (Try.prog.underlying 22).isSome = true := by kernel_rfl
theorem iu22 : Try.prog.underlying 22 = some (.int .u64) := by kernel_rfl
abbrev et22 : ETy := ⟨1, 8⟩
theorem el22 : elemB Try.prog 22 et22 = true := by kernel_rfl
theorem z22 : zeroCells Try.prog 22 = some [.int .u64 0] := by kernel_rfl
theorem ty23 : tySz Try.prog 23 = some (false, 1, 8) := by kernel_rfl
theorem us23 : (Try.prog.underlying 23).isSome = true := by kernel_rfl
abbrev et23 : ETy := ⟨1, 8⟩
theorem el23 : elemB Try.prog 23 et23 = true := by kernel_rfl
theorem z23 : zeroCells Try.prog 23 = some [.nilFunc] := by kernel_rfl
theorem ty24 : tySz Try.prog 24 = some (false, 1, 8) := by kernel_rfl
theorem us24 : (Try.prog.underlying 24).isSome = true := by kernel_rfl
abbrev et24 : ETy := ⟨1, 8⟩
theorem el24 : elemB Try.prog 24 et24 = true := by kernel_rfl
theorem z24 : zeroCells Try.prog 24 = some [.nilFunc] := by kernel_rfl
theorem ty25 : tySz Try.prog 25 = some (false, 1, 8) := by kernel_rfl
theorem us25 : (Try.prog.underlying 25).isSome = true := by kernel_rfl
abbrev et25 : ETy := ⟨1, 8⟩
theorem el25 : elemB Try.prog 25 et25 = true := by kernel_rfl
theorem z25 : zeroCells Try.prog 25 = some [.nilFunc] := by kernel_rfl
theorem ty26 : tySz Try.prog 26 = some (false, 1, 8) := by kernel_rfl
theorem us26 : (Try.prog.underlying 26).isSome = true := by kernel_rfl
abbrev et26 : ETy := ⟨1, 8⟩
theorem el26 : elemB Try.prog 26 et26 = true := by kernel_rfl
theorem z26 : zeroCells Try.prog 26 = some [.nilFunc] := by kernel_rfl
theorem ty27 : tySz Try.prog 27 = some (false, 1, 8) := by kernel_rfl
theorem us27 : (Try.prog.underlying 27).isSome = true := by kernel_rfl
theorem fl27 : Try.prog.underlying 27 = some (.float .f64) := by kernel_rfl
abbrev et27 : ETy := ⟨1, 8⟩
theorem el27 : elemB Try.prog 27 et27 = true := by kernel_rfl
theorem z27 : zeroCells Try.prog 27 = some [.float .f64 0] := by kernel_rfl
theorem ty28 : tySz Try.prog 28 = some (false, 1, 8) := by kernel_rfl
theorem us28 : (Try.prog.underlying 28).isSome = true := by kernel_rfl
abbrev et28 : ETy := ⟨1, 8⟩
theorem el28 : elemB Try.prog 28 et28 = true := by kernel_rfl
theorem z28 : zeroCells Try.prog 28 = some [.nilFunc] := by kernel_rfl
theorem ty29 : tySz Try.prog 29 = some (false, 1, 8) := by kernel_rfl
theorem us29 : (Try.prog.underlying 29).isSome = true := by kernel_rfl
abbrev et29 : ETy := ⟨1, 8⟩
theorem el29 : elemB Try.prog 29 et29 = true := by kernel_rfl
theorem z29 : zeroCells Try.prog 29 = some [.nilFunc] := by kernel_rfl
theorem ty30 : tySz Try.prog 30 = some (false, 1, 8) := by kernel_rfl
theorem us30 : (Try.prog.underlying 30).isSome = true := by kernel_rfl
abbrev et30 : ETy := ⟨1, 8⟩
theorem el30 : elemB Try.prog 30 et30 = true := by kernel_rfl
theorem z30 : zeroCells Try.prog 30 = some [.nilFunc] := by kernel_rfl
theorem ty31 : tySz Try.prog 31 = some (false, 1, 8) := by kernel_rfl
theorem us31 : (Try.prog.underlying 31).isSome = true := by kernel_rfl
abbrev et31 : ETy := ⟨1, 8⟩
theorem el31 : elemB Try.prog 31 et31 = true := by kernel_rfl
theorem z31 : zeroCells Try.prog 31 = some [.nilFunc] := by kernel_rfl
theorem ty32 : tySz Try.prog 32 = some (false, 1, 24) := by kernel_rfl
theorem us32 : (Try.prog.underlying 32).isSome = true := by kernel_rfl
theorem sl32 : Try.prog.underlying 32 = some (.slice 22) := by kernel_rfl
abbrev et32 : ETy := ⟨1, 24⟩
theorem el32 : elemB Try.prog 32 et32 = true := by kernel_rfl
theorem z32 : zeroCells Try.prog 32 = some [.slice none 0 0] := by kernel_rfl
theorem ty33 : tySz Try.prog 33 = some (false, 1, 8) := by kernel_rfl
theorem us33 : (Try.prog.underlying 33).isSome = true := by kernel_rfl
theorem iu33 : Try.prog.underlying 33 = some (.int .i64) := by kernel_rfl
abbrev et33 : ETy := ⟨1, 8⟩
theorem el33 : elemB Try.prog 33 et33 = true := by kernel_rfl
theorem z33 : zeroCells Try.prog 33 = some [.int .i64 0] := by kernel_rfl
theorem ty34 : tySz Try.prog 34 = some (false, 1, 0) := by kernel_rfl
theorem us34 : (Try.prog.underlying 34).isSome = true := by kernel_rfl
theorem ty35 : tySz Try.prog 35 = some (false, 1, 8) := by kernel_rfl
theorem us35 : (Try.prog.underlying 35).isSome = true := by kernel_rfl
abbrev et35 : ETy := ⟨1, 8⟩
theorem el35 : elemB Try.prog 35 et35 = true := by kernel_rfl
theorem z35 : zeroCells Try.prog 35 = some [.nilFunc] := by kernel_rfl
theorem ty36 : tySz Try.prog 36 = some (false, 1, 8) := by kernel_rfl
theorem us36 : (Try.prog.underlying 36).isSome = true := by kernel_rfl
abbrev et36 : ETy := ⟨1, 8⟩
theorem el36 : elemB Try.prog 36 et36 = true := by kernel_rfl
theorem z36 : zeroCells Try.prog 36 = some [.nilFunc] := by kernel_rfl
theorem ty37 : tySz Try.prog 37 = some (false, 1, 0) := by kernel_rfl
theorem us37 : (Try.prog.underlying 37).isSome = true := by kernel_rfl
theorem ty38 : tySz Try.prog 38 = some (false, 1, 8) := by kernel_rfl
theorem us38 : (Try.prog.underlying 38).isSome = true := by kernel_rfl
abbrev et38 : ETy := ⟨1, 8⟩
theorem el38 : elemB Try.prog 38 et38 = true := by kernel_rfl
theorem z38 : zeroCells Try.prog 38 = some [.nilFunc] := by kernel_rfl
theorem ty39 : tySz Try.prog 39 = some (false, 1, 8) := by kernel_rfl
theorem us39 : (Try.prog.underlying 39).isSome = true := by kernel_rfl
abbrev et39 : ETy := ⟨1, 8⟩
theorem el39 : elemB Try.prog 39 et39 = true := by kernel_rfl
theorem z39 : zeroCells Try.prog 39 = some [.nilFunc] := by kernel_rfl
theorem ty40 : tySz Try.prog 40 = some (false, 1, 0) := by kernel_rfl
theorem us40 : (Try.prog.underlying 40).isSome = true := by kernel_rfl
theorem ty41 : tySz Try.prog 41 = some (false, 1, 8) := by kernel_rfl
theorem us41 : (Try.prog.underlying 41).isSome = true := by kernel_rfl
abbrev et41 : ETy := ⟨1, 8⟩
theorem el41 : elemB Try.prog 41 et41 = true := by kernel_rfl
theorem z41 : zeroCells Try.prog 41 = some [.nilFunc] := by kernel_rfl
theorem ty42 : tySz Try.prog 42 = some (false, 1, 0) := by kernel_rfl
theorem us42 : (Try.prog.underlying 42).isSome = true := by kernel_rfl
theorem ty43 : tySz Try.prog 43 = some (false, 1, 8) := by kernel_rfl
theorem us43 : (Try.prog.underlying 43).isSome = true := by kernel_rfl
abbrev et43 : ETy := ⟨1, 8⟩
theorem el43 : elemB Try.prog 43 et43 = true := by kernel_rfl
theorem z43 : zeroCells Try.prog 43 = some [.nilFunc] := by kernel_rfl
theorem ty44 : tySz Try.prog 44 = some (false, 1, 8) := by kernel_rfl
theorem us44 : (Try.prog.underlying 44).isSome = true := by kernel_rfl
abbrev et44 : ETy := ⟨1, 8⟩
theorem el44 : elemB Try.prog 44 et44 = true := by kernel_rfl
theorem z44 : zeroCells Try.prog 44 = some [.nilFunc] := by kernel_rfl
theorem ty45 : tySz Try.prog 45 = some (false, 1, 8) := by kernel_rfl
theorem us45 : (Try.prog.underlying 45).isSome = true := by kernel_rfl
abbrev et45 : ETy := ⟨1, 8⟩
theorem el45 : elemB Try.prog 45 et45 = true := by kernel_rfl
theorem z45 : zeroCells Try.prog 45 = some [.nilFunc] := by kernel_rfl
theorem ty46 : tySz Try.prog 46 = some (false, 1, 8) := by kernel_rfl
theorem us46 : (Try.prog.underlying 46).isSome = true := by kernel_rfl
abbrev et46 : ETy := ⟨1, 8⟩
theorem el46 : elemB Try.prog 46 et46 = true := by kernel_rfl
theorem z46 : zeroCells Try.prog 46 = some [.nilFunc] := by kernel_rfl
theorem ty47 : tySz Try.prog 47 = some (false, 1, 8) := by kernel_rfl
theorem us47 : (Try.prog.underlying 47).isSome = true := by kernel_rfl
abbrev et47 : ETy := ⟨1, 8⟩
theorem el47 : elemB Try.prog 47 et47 = true := by kernel_rfl
theorem z47 : zeroCells Try.prog 47 = some [.nilFunc] := by kernel_rfl
theorem ty48 : tySz Try.prog 48 = some (false, 1, 8) := by kernel_rfl
theorem us48 : (Try.prog.underlying 48).isSome = true := by kernel_rfl
theorem iu48 : Try.prog.underlying 48 = some (.int .u64) := by kernel_rfl
abbrev et48 : ETy := ⟨1, 8⟩
theorem el48 : elemB Try.prog 48 et48 = true := by kernel_rfl
theorem z48 : zeroCells Try.prog 48 = some [.int .u64 0] := by kernel_rfl
theorem ty49 : tySz Try.prog 49 = some (false, 1, 8) := by kernel_rfl
theorem us49 : (Try.prog.underlying 49).isSome = true := by kernel_rfl
abbrev et49 : ETy := ⟨1, 8⟩
theorem el49 : elemB Try.prog 49 et49 = true := by kernel_rfl
theorem z49 : zeroCells Try.prog 49 = some [.nilFunc] := by kernel_rfl
theorem ty50 : tySz Try.prog 50 = some (false, 1, 8) := by kernel_rfl
theorem us50 : (Try.prog.underlying 50).isSome = true := by kernel_rfl
abbrev et50 : ETy := ⟨1, 8⟩
theorem el50 : elemB Try.prog 50 et50 = true := by kernel_rfl
theorem z50 : zeroCells Try.prog 50 = some [.nilFunc] := by kernel_rfl
theorem ty51 : tySz Try.prog 51 = some (false, 1, 8) := by kernel_rfl
theorem us51 : (Try.prog.underlying 51).isSome = true := by kernel_rfl
abbrev et51 : ETy := ⟨1, 8⟩
theorem el51 : elemB Try.prog 51 et51 = true := by kernel_rfl
theorem z51 : zeroCells Try.prog 51 = some [.nilFunc] := by kernel_rfl
theorem ty52 : tySz Try.prog 52 = some (false, 1, 0) := by kernel_rfl
theorem us52 : (Try.prog.underlying 52).isSome = true := by kernel_rfl
theorem ty53 : tySz Try.prog 53 = some (false, 1, 8) := by kernel_rfl
theorem us53 : (Try.prog.underlying 53).isSome = true := by kernel_rfl
abbrev et53 : ETy := ⟨1, 8⟩
theorem el53 : elemB Try.prog 53 et53 = true := by kernel_rfl
theorem z53 : zeroCells Try.prog 53 = some [.nilFunc] := by kernel_rfl
theorem ty54 : tySz Try.prog 54 = some (false, 1, 8) := by kernel_rfl
theorem us54 : (Try.prog.underlying 54).isSome = true := by kernel_rfl
abbrev et54 : ETy := ⟨1, 8⟩
theorem el54 : elemB Try.prog 54 et54 = true := by kernel_rfl
theorem z54 : zeroCells Try.prog 54 = some [.nilFunc] := by kernel_rfl
theorem ty55 : tySz Try.prog 55 = some (true, 4, 40) := by kernel_rfl
theorem us55 : (Try.prog.underlying 55).isSome = true := by kernel_rfl
theorem pl55 : placesOf Try.prog 55 = some [(0, 1), (1, 1), (2, 1), (3, 1)] := by kernel_rfl
theorem fo55_0 : fieldOff Try.prog 55 0 = some 0 := by kernel_rfl
theorem fo55_1 : fieldOff Try.prog 55 1 = some 1 := by kernel_rfl
theorem fo55_2 : fieldOff Try.prog 55 2 = some 2 := by kernel_rfl
theorem fo55_3 : fieldOff Try.prog 55 3 = some 3 := by kernel_rfl
abbrev et55 : ETy := ⟨4, 40⟩
theorem el55 : elemB Try.prog 55 et55 = true := by kernel_rfl
theorem z55 : zeroCells Try.prog 55 = some [.pointer none, .pointer none, .pointer none, str []] := by kernel_rfl
theorem ty56 : tySz Try.prog 56 = some (true, 4, 40) := by kernel_rfl
theorem us56 : (Try.prog.underlying 56).isSome = true := by kernel_rfl
theorem pl56 : placesOf Try.prog 56 = some [(0, 1), (1, 1), (2, 1), (3, 1)] := by kernel_rfl
theorem fo56_0 : fieldOff Try.prog 56 0 = some 0 := by kernel_rfl
theorem fo56_1 : fieldOff Try.prog 56 1 = some 1 := by kernel_rfl
theorem fo56_2 : fieldOff Try.prog 56 2 = some 2 := by kernel_rfl
theorem fo56_3 : fieldOff Try.prog 56 3 = some 3 := by kernel_rfl
abbrev et56 : ETy := ⟨4, 40⟩
theorem el56 : elemB Try.prog 56 et56 = true := by kernel_rfl
theorem z56 : zeroCells Try.prog 56 = some [.pointer none, .pointer none, .pointer none, str []] := by kernel_rfl
theorem ty57 : tySz Try.prog 57 = some (true, 0, 0) := by kernel_rfl
theorem us57 : (Try.prog.underlying 57).isSome = true := by kernel_rfl
abbrev et57 : ETy := ⟨0, 0⟩
theorem el57 : elemB Try.prog 57 et57 = true := by kernel_rfl
theorem z57 : zeroCells Try.prog 57 = some [] := by kernel_rfl
theorem ty58 : tySz Try.prog 58 = some (true, 0, 0) := by kernel_rfl
theorem us58 : (Try.prog.underlying 58).isSome = true := by kernel_rfl
theorem pl58 : placesOf Try.prog 58 = some [(0, 0)] := by kernel_rfl
abbrev et58 : ETy := ⟨0, 0⟩
theorem el58 : elemB Try.prog 58 et58 = true := by kernel_rfl
theorem z58 : zeroCells Try.prog 58 = some [] := by kernel_rfl
theorem ty59 : tySz Try.prog 59 = some (true, 0, 0) := by kernel_rfl
theorem us59 : (Try.prog.underlying 59).isSome = true := by kernel_rfl
theorem pl59 : placesOf Try.prog 59 = some [(0, 0)] := by kernel_rfl
abbrev et59 : ETy := ⟨0, 0⟩
theorem el59 : elemB Try.prog 59 et59 = true := by kernel_rfl
theorem z59 : zeroCells Try.prog 59 = some [] := by kernel_rfl
theorem ty60 : tySz Try.prog 60 = some (false, 1, 8) := by kernel_rfl
theorem us60 : (Try.prog.underlying 60).isSome = true := by kernel_rfl
abbrev et60 : ETy := ⟨1, 8⟩
theorem el60 : elemB Try.prog 60 et60 = true := by kernel_rfl
theorem z60 : zeroCells Try.prog 60 = some [.nilFunc] := by kernel_rfl
theorem ty61 : tySz Try.prog 61 = some (false, 1, 4) := by kernel_rfl
theorem us61 : (Try.prog.underlying 61).isSome = true := by kernel_rfl
theorem iu61 : Try.prog.underlying 61 = some (.int .u32) := by kernel_rfl
abbrev et61 : ETy := ⟨1, 4⟩
theorem el61 : elemB Try.prog 61 et61 = true := by kernel_rfl
theorem z61 : zeroCells Try.prog 61 = some [.int .u32 0] := by kernel_rfl
theorem ty62 : tySz Try.prog 62 = some (false, 1, 1) := by kernel_rfl
theorem us62 : (Try.prog.underlying 62).isSome = true := by kernel_rfl
theorem iu62 : Try.prog.underlying 62 = some (.int .u8) := by kernel_rfl
abbrev et62 : ETy := ⟨1, 1⟩
theorem el62 : elemB Try.prog 62 et62 = true := by kernel_rfl
theorem z62 : zeroCells Try.prog 62 = some [.int .u8 0] := by kernel_rfl
theorem ty63 : tySz Try.prog 63 = some (false, 1, 1) := by kernel_rfl
theorem us63 : (Try.prog.underlying 63).isSome = true := by kernel_rfl
theorem iu63 : Try.prog.underlying 63 = some (.int .u8) := by kernel_rfl
abbrev et63 : ETy := ⟨1, 1⟩
theorem el63 : elemB Try.prog 63 et63 = true := by kernel_rfl
theorem z63 : zeroCells Try.prog 63 = some [.int .u8 0] := by kernel_rfl
theorem ty64 : tySz Try.prog 64 = some (false, 1, 8) := by kernel_rfl
theorem us64 : (Try.prog.underlying 64).isSome = true := by kernel_rfl
abbrev et64 : ETy := ⟨1, 8⟩
theorem el64 : elemB Try.prog 64 et64 = true := by kernel_rfl
theorem z64 : zeroCells Try.prog 64 = some [.nilFunc] := by kernel_rfl
theorem ty65 : tySz Try.prog 65 = some (false, 1, 8) := by kernel_rfl
theorem us65 : (Try.prog.underlying 65).isSome = true := by kernel_rfl
abbrev et65 : ETy := ⟨1, 8⟩
theorem el65 : elemB Try.prog 65 et65 = true := by kernel_rfl
theorem z65 : zeroCells Try.prog 65 = some [.pointer none] := by kernel_rfl
theorem ty66 : tySz Try.prog 66 = some (false, 1, 4) := by kernel_rfl
theorem us66 : (Try.prog.underlying 66).isSome = true := by kernel_rfl
theorem iu66 : Try.prog.underlying 66 = some (.int .i32) := by kernel_rfl
abbrev et66 : ETy := ⟨1, 4⟩
theorem el66 : elemB Try.prog 66 et66 = true := by kernel_rfl
theorem z66 : zeroCells Try.prog 66 = some [.int .i32 0] := by kernel_rfl
theorem ty67 : tySz Try.prog 67 = some (false, 1, 4) := by kernel_rfl
theorem us67 : (Try.prog.underlying 67).isSome = true := by kernel_rfl
theorem iu67 : Try.prog.underlying 67 = some (.int .i32) := by kernel_rfl
abbrev et67 : ETy := ⟨1, 4⟩
theorem el67 : elemB Try.prog 67 et67 = true := by kernel_rfl
theorem z67 : zeroCells Try.prog 67 = some [.int .i32 0] := by kernel_rfl
theorem ty68 : tySz Try.prog 68 = some (true, 11, 48) := by kernel_rfl
theorem us68 : (Try.prog.underlying 68).isSome = true := by kernel_rfl
theorem pl68 : placesOf Try.prog 68 = some [(0, 1), (1, 1), (2, 1), (3, 1), (4, 1), (5, 1), (6, 1), (7, 1), (8, 1), (9, 1), (10, 1)] := by kernel_rfl
theorem fo68_0 : fieldOff Try.prog 68 0 = some 0 := by kernel_rfl
theorem fo68_1 : fieldOff Try.prog 68 1 = some 1 := by kernel_rfl
theorem fo68_2 : fieldOff Try.prog 68 2 = some 2 := by kernel_rfl
theorem fo68_3 : fieldOff Try.prog 68 3 = some 3 := by kernel_rfl
theorem fo68_4 : fieldOff Try.prog 68 4 = some 4 := by kernel_rfl
theorem fo68_5 : fieldOff Try.prog 68 5 = some 5 := by kernel_rfl
theorem fo68_6 : fieldOff Try.prog 68 6 = some 6 := by kernel_rfl
theorem fo68_7 : fieldOff Try.prog 68 7 = some 7 := by kernel_rfl
theorem fo68_8 : fieldOff Try.prog 68 8 = some 8 := by kernel_rfl
theorem fo68_9 : fieldOff Try.prog 68 9 = some 9 := by kernel_rfl
theorem fo68_10 : fieldOff Try.prog 68 10 = some 10 := by kernel_rfl
abbrev et68 : ETy := ⟨11, 48⟩
theorem el68 : elemB Try.prog 68 et68 = true := by kernel_rfl
theorem z68 : zeroCells Try.prog 68 = some [.int .u64 0, .int .u64 0, .int .u32 0, .int .u8 0, .int .u8 0, .int .u8 0, .int .u8 0, .nilFunc, .pointer none, .int .i32 0, .int .i32 0] := by kernel_rfl
theorem ty69 : tySz Try.prog 69 = some (true, 11, 48) := by kernel_rfl
theorem us69 : (Try.prog.underlying 69).isSome = true := by kernel_rfl
theorem pl69 : placesOf Try.prog 69 = some [(0, 1), (1, 1), (2, 1), (3, 1), (4, 1), (5, 1), (6, 1), (7, 1), (8, 1), (9, 1), (10, 1)] := by kernel_rfl
theorem fo69_0 : fieldOff Try.prog 69 0 = some 0 := by kernel_rfl
theorem fo69_1 : fieldOff Try.prog 69 1 = some 1 := by kernel_rfl
theorem fo69_2 : fieldOff Try.prog 69 2 = some 2 := by kernel_rfl
theorem fo69_3 : fieldOff Try.prog 69 3 = some 3 := by kernel_rfl
theorem fo69_4 : fieldOff Try.prog 69 4 = some 4 := by kernel_rfl
theorem fo69_5 : fieldOff Try.prog 69 5 = some 5 := by kernel_rfl
theorem fo69_6 : fieldOff Try.prog 69 6 = some 6 := by kernel_rfl
theorem fo69_7 : fieldOff Try.prog 69 7 = some 7 := by kernel_rfl
theorem fo69_8 : fieldOff Try.prog 69 8 = some 8 := by kernel_rfl
theorem fo69_9 : fieldOff Try.prog 69 9 = some 9 := by kernel_rfl
theorem fo69_10 : fieldOff Try.prog 69 10 = some 10 := by kernel_rfl
abbrev et69 : ETy := ⟨11, 48⟩
theorem el69 : elemB Try.prog 69 et69 = true := by kernel_rfl
theorem z69 : zeroCells Try.prog 69 = some [.int .u64 0, .int .u64 0, .int .u32 0, .int .u8 0, .int .u8 0, .int .u8 0, .int .u8 0, .nilFunc, .pointer none, .int .i32 0, .int .i32 0] := by kernel_rfl
theorem ty70 : tySz Try.prog 70 = some (false, 1, 8) := by kernel_rfl
theorem us70 : (Try.prog.underlying 70).isSome = true := by kernel_rfl
theorem mixed : Try.prog.follows .mixedOrders = true := by kernel_rfl
theorem gofn2 : goFn Try.prog 2 = true := by kernel_rfl
theorem gofn3 : goFn Try.prog 3 = true := by kernel_rfl
theorem gofn4 : goFn Try.prog 4 = true := by kernel_rfl
theorem gofn5 : goFn Try.prog 5 = true := by kernel_rfl
theorem gofn6 : goFn Try.prog 6 = true := by kernel_rfl
theorem gofn7 : goFn Try.prog 7 = true := by kernel_rfl
theorem gofn8 : goFn Try.prog 8 = true := by kernel_rfl
theorem gofn9 : goFn Try.prog 9 = true := by kernel_rfl
theorem gofn10 : goFn Try.prog 10 = true := by kernel_rfl
theorem gofn11 : goFn Try.prog 11 = true := by kernel_rfl
theorem gofn12 : goFn Try.prog 12 = true := by kernel_rfl
theorem gofn13 : goFn Try.prog 13 = true := by kernel_rfl
theorem gofn14 : goFn Try.prog 14 = true := by kernel_rfl
theorem extFrom (b : Nat) (w : World) : (callFunc 15 #[.int .u64 (b : Int)]).run Try.prog w = .ok (.value (.float .f64 b)) w := by kernel_rfl
theorem gofn16 : goFn Try.prog 16 = true := by kernel_rfl
theorem gofn17 : goFn Try.prog 17 = true := by kernel_rfl
theorem gofn18 : goFn Try.prog 18 = true := by kernel_rfl
theorem gofn19 : goFn Try.prog 19 = true := by kernel_rfl
theorem gofn20 : goFn Try.prog 20 = true := by kernel_rfl
theorem gofn21 : goFn Try.prog 21 = true := by kernel_rfl
theorem gofn22 : goFn Try.prog 22 = true := by kernel_rfl
theorem gofn23 : goFn Try.prog 23 = true := by kernel_rfl
theorem gofn24 : goFn Try.prog 24 = true := by kernel_rfl
theorem gofn25 : goFn Try.prog 25 = true := by kernel_rfl
theorem gofn26 : goFn Try.prog 26 = true := by kernel_rfl
theorem gofn27 : goFn Try.prog 27 = true := by kernel_rfl
theorem gofn28 : goFn Try.prog 28 = true := by kernel_rfl
theorem gofn29 : goFn Try.prog 29 = true := by kernel_rfl
theorem gofn30 : goFn Try.prog 30 = true := by kernel_rfl
theorem gofn31 : goFn Try.prog 31 = true := by kernel_rfl
theorem gofn32 : goFn Try.prog 32 = true := by kernel_rfl
theorem gofn33 : goFn Try.prog 33 = true := by kernel_rfl
theorem gofn34 : goFn Try.prog 34 = true := by kernel_rfl
theorem gofn35 : goFn Try.prog 35 = true := by kernel_rfl
theorem gofn36 : goFn Try.prog 36 = true := by kernel_rfl
theorem gofn37 : goFn Try.prog 37 = true := by kernel_rfl
theorem gofn38 : goFn Try.prog 38 = true := by kernel_rfl
theorem gofn39 : goFn Try.prog 39 = true := by kernel_rfl
theorem gofn40 : goFn Try.prog 40 = true := by kernel_rfl
theorem gofn41 : goFn Try.prog 41 = true := by kernel_rfl
theorem gofn42 : goFn Try.prog 42 = true := by kernel_rfl
theorem gofn43 : goFn Try.prog 43 = true := by kernel_rfl
theorem gofn44 : goFn Try.prog 44 = true := by kernel_rfl
theorem extBits (b : Nat) (w : World) : (callFunc 45 #[.float .f64 b]).run Try.prog w = .ok (.value (.int .u64 b)) w := by kernel_rfl
theorem gofn46 : goFn Try.prog 46 = true := by kernel_rfl
theorem gofn47 : goFn Try.prog 47 = true := by kernel_rfl
theorem gofn48 : goFn Try.prog 48 = true := by kernel_rfl
theorem gofn50 : goFn Try.prog 50 = true := by kernel_rfl
theorem gofn52 : goFn Try.prog 52 = true := by kernel_rfl
theorem gofn53 : goFn Try.prog 53 = true := by kernel_rfl
theorem gofn54 : goFn Try.prog 54 = true := by kernel_rfl
theorem gofn55 : goFn Try.prog 55 = true := by kernel_rfl
end Go.Proofs.Ytppoepenmpcbnaa.J
