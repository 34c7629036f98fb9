/- Facts of the program's tables: sizes, places of fields, zero values, functions with a body; each by computation. -/
import Derived.Test.YtkiankpmkglhcaaJ10
import Derived.Test.YtkiankpmkglhcaaProg
import Derived.KernelRfl
namespace Go.Proofs.Ytkiankpmkglhcaa.J
open Go Go.RowKit

theorem ty0 : tySz Try.prog 0 = some (false, 1, 0) := by kernel_rfl
theorem us0 : (Try.prog.underlying 0).isSome = true := by kernel_rfl
theorem ty1 : tySz Try.prog 1 = some (false, 1, 8) := by kernel_rfl
theorem us1 : (Try.prog.underlying 1).isSome = true := by kernel_rfl
abbrev et1 : ETy := ⟨1, 8⟩
theorem el1 : elemB Try.prog 1 et1 = true := by kernel_rfl
theorem z1 : zeroCells Try.prog 1 = some [.nilFunc] := by kernel_rfl
theorem ty2 : tySz Try.prog 2 = some (false, 1, 8) := by kernel_rfl
theorem us2 : (Try.prog.underlying 2).isSome = true := by kernel_rfl
theorem iu2 : Try.prog.underlying 2 = some (.int .i64) := by kernel_rfl
abbrev et2 : ETy := ⟨1, 8⟩
theorem el2 : elemB Try.prog 2 et2 = true := by kernel_rfl
theorem z2 : zeroCells Try.prog 2 = some [.int .i64 0] := by kernel_rfl
theorem ty3 : tySz Try.prog 3 = some (false, 1, 8) := by kernel_rfl
theorem us3 : (Try.prog.underlying 3).isSome = true := by kernel_rfl
theorem iu3 : Try.prog.underlying 3 = some (.int .i64) := by kernel_rfl
abbrev et3 : ETy := ⟨1, 8⟩
theorem el3 : elemB Try.prog 3 et3 = true := by kernel_rfl
theorem z3 : zeroCells Try.prog 3 = some [.int .i64 0] := by kernel_rfl
theorem ty4 : tySz Try.prog 4 = some (false, 1, 1) := by kernel_rfl
theorem us4 : (Try.prog.underlying 4).isSome = true := by kernel_rfl
theorem bo4 : Try.prog.underlying 4 = some .bool := by kernel_rfl
abbrev et4 : ETy := ⟨1, 1⟩
theorem el4 : elemB Try.prog 4 et4 = true := by kernel_rfl
theorem z4 : zeroCells Try.prog 4 = some [.bool false] := by kernel_rfl
theorem ty5 : tySz Try.prog 5 = some (false, 1, 1) := by kernel_rfl
theorem us5 : (Try.prog.underlying 5).isSome = true := by kernel_rfl
theorem iu5 : Try.prog.underlying 5 = some (.int .u8) := by kernel_rfl
abbrev et5 : ETy := ⟨1, 1⟩
theorem el5 : elemB Try.prog 5 et5 = true := by kernel_rfl
theorem z5 : zeroCells Try.prog 5 = some [.int .u8 0] := by kernel_rfl
theorem ty6 : tySz Try.prog 6 = some (false, 1, 1) := by kernel_rfl
theorem us6 : (Try.prog.underlying 6).isSome = true := by kernel_rfl
theorem iu6 : Try.prog.underlying 6 = some (.int .u8) := by kernel_rfl
abbrev et6 : ETy := ⟨1, 1⟩
theorem el6 : elemB Try.prog 6 et6 = true := by kernel_rfl
theorem z6 : zeroCells Try.prog 6 = some [.int .u8 0] := by kernel_rfl
theorem ty7 : tySz Try.prog 7 = some (true, 4, 24) := by kernel_rfl
theorem us7 : (Try.prog.underlying 7).isSome = true := by kernel_rfl
theorem pl7 : placesOf Try.prog 7 = some [(0, 1), (1, 1), (2, 1), (3, 1)] := by kernel_rfl
theorem fo7_0 : fieldOff Try.prog 7 0 = some 0 := by kernel_rfl
theorem fo7_1 : fieldOff Try.prog 7 1 = some 1 := by kernel_rfl
theorem fo7_2 : fieldOff Try.prog 7 2 = some 2 := by kernel_rfl
theorem fo7_3 : fieldOff Try.prog 7 3 = some 3 := by kernel_rfl
abbrev et7 : ETy := ⟨4, 24⟩
theorem el7 : elemB Try.prog 7 et7 = true := by kernel_rfl
theorem z7 : zeroCells Try.prog 7 = some [.int .i64 0, .int .i64 0, .bool false, .int .u8 0] := by kernel_rfl
theorem ty8 : tySz Try.prog 8 = some (true, 4, 24) := by kernel_rfl
theorem us8 : (Try.prog.underlying 8).isSome = true := by kernel_rfl
theorem pl8 : placesOf Try.prog 8 = some [(0, 1), (1, 1), (2, 1), (3, 1)] := by kernel_rfl
theorem fo8_0 : fieldOff Try.prog 8 0 = some 0 := by kernel_rfl
theorem fo8_1 : fieldOff Try.prog 8 1 = some 1 := by kernel_rfl
theorem fo8_2 : fieldOff Try.prog 8 2 = some 2 := by kernel_rfl
theorem fo8_3 : fieldOff Try.prog 8 3 = some 3 := by kernel_rfl
abbrev et8 : ETy := ⟨4, 24⟩
theorem el8 : elemB Try.prog 8 et8 = true := by kernel_rfl
theorem z8 : zeroCells Try.prog 8 = some [.int .i64 0, .int .i64 0, .bool false, .int .u8 0] := by kernel_rfl
theorem ty9 : tySz Try.prog 9 = some (false, 1, 16) := by kernel_rfl
theorem us9 : (Try.prog.underlying 9).isSome = true := by kernel_rfl
theorem st9 : Try.prog.underlying 9 = some .string := by kernel_rfl
abbrev et9 : ETy := ⟨1, 16⟩
theorem el9 : elemB Try.prog 9 et9 = true := by kernel_rfl
theorem z9 : zeroCells Try.prog 9 = some [str []] := by kernel_rfl
theorem ty10 : tySz Try.prog 10 = some (false, 1, 16) := by kernel_rfl
theorem us10 : (Try.prog.underlying 10).isSome = true := by kernel_rfl
theorem st10 : Try.prog.underlying 10 = some .string := by kernel_rfl
abbrev et10 : ETy := ⟨1, 16⟩
theorem el10 : elemB Try.prog 10 et10 = true := by kernel_rfl
theorem z10 : zeroCells Try.prog 10 = some [str []] := by kernel_rfl
theorem ty11 : tySz Try.prog 11 = some (false, 1, 16) := by kernel_rfl
theorem us11 : (Try.prog.underlying 11).isSome = true := by kernel_rfl
theorem st11 : Try.prog.underlying 11 = some .string := by kernel_rfl
abbrev et11 : ETy := ⟨1, 16⟩
theorem el11 : elemB Try.prog 11 et11 = true := by kernel_rfl
theorem z11 : zeroCells Try.prog 11 = some [str []] := by kernel_rfl
theorem ty12 : tySz Try.prog 12 = some (false, 1, 8) := by kernel_rfl
theorem us12 : (Try.prog.underlying 12).isSome = true := by kernel_rfl
theorem iu12 : Try.prog.underlying 12 = some (.int .u64) := by kernel_rfl
abbrev et12 : ETy := ⟨1, 8⟩
theorem el12 : elemB Try.prog 12 et12 = true := by kernel_rfl
theorem z12 : zeroCells Try.prog 12 = some [.int .u64 0] := by kernel_rfl
theorem ty13 : tySz Try.prog 13 = some (true, 2, 24) := by kernel_rfl
theorem us13 : (Try.prog.underlying 13).isSome = true := by kernel_rfl
theorem pl13 : placesOf Try.prog 13 = some [(0, 1), (1, 1)] := by kernel_rfl
theorem fo13_0 : fieldOff Try.prog 13 0 = some 0 := by kernel_rfl
theorem fo13_1 : fieldOff Try.prog 13 1 = some 1 := by kernel_rfl
abbrev et13 : ETy := ⟨2, 24⟩
theorem el13 : elemB Try.prog 13 et13 = true := by kernel_rfl
theorem z13 : zeroCells Try.prog 13 = some [str [], .int .u64 0] := by kernel_rfl
theorem ty14 : tySz Try.prog 14 = some (true, 2, 24) := by kernel_rfl
theorem us14 : (Try.prog.underlying 14).isSome = true := by kernel_rfl
theorem pl14 : placesOf Try.prog 14 = some [(0, 1), (1, 1)] := by kernel_rfl
theorem fo14_0 : fieldOff Try.prog 14 0 = some 0 := by kernel_rfl
theorem fo14_1 : fieldOff Try.prog 14 1 = some 1 := by kernel_rfl
abbrev et14 : ETy := ⟨2, 24⟩
theorem el14 : elemB Try.prog 14 et14 = true := by kernel_rfl
theorem z14 : zeroCells Try.prog 14 = some [str [], .int .u64 0] := by kernel_rfl
theorem ty15 : tySz Try.prog 15 = some (false, 1, 8) := by kernel_rfl
theorem us15 : (Try.prog.underlying 15).isSome = true := by kernel_rfl
abbrev et15 : ETy := ⟨1, 8⟩
theorem el15 : elemB Try.prog 15 et15 = true := by kernel_rfl
theorem z15 : zeroCells Try.prog 15 = some [.pointer none] := by kernel_rfl
theorem ty16 : tySz Try.prog 16 = some (false, 1, 8) := by kernel_rfl
theorem us16 : (Try.prog.underlying 16).isSome = true := by kernel_rfl
abbrev et16 : ETy := ⟨1, 8⟩
theorem el16 : elemB Try.prog 16 et16 = true := by kernel_rfl
theorem z16 : zeroCells Try.prog 16 = some [.pointer none] := by kernel_rfl
theorem ty17 : tySz Try.prog 17 = some (false, 1, 8) := by kernel_rfl
theorem us17 : (Try.prog.underlying 17).isSome = true := by kernel_rfl
abbrev et17 : ETy := ⟨1, 8⟩
theorem el17 : elemB Try.prog 17 et17 = true := by kernel_rfl
theorem z17 : zeroCells Try.prog 17 = some [.pointer none] := by kernel_rfl
theorem ty18 : tySz Try.prog 18 = some (true, 1, 8) := by kernel_rfl
theorem us18 : (Try.prog.underlying 18).isSome = true := by kernel_rfl
theorem pl18 : placesOf Try.prog 18 = some [(0, 1)] := by kernel_rfl
theorem fo18_0 : fieldOff Try.prog 18 0 = some 0 := by kernel_rfl
abbrev et18 : ETy := ⟨1, 8⟩
theorem el18 : elemB Try.prog 18 et18 = true := by kernel_rfl
theorem z18 : zeroCells Try.prog 18 = some [.pointer none] := by kernel_rfl
theorem ty19 : tySz Try.prog 19 = some (true, 1, 8) := by kernel_rfl
theorem us19 : (Try.prog.underlying 19).isSome = true := by kernel_rfl
theorem pl19 : placesOf Try.prog 19 = some [(0, 1)] := by kernel_rfl
theorem fo19_0 : fieldOff Try.prog 19 0 = some 0 := by kernel_rfl
abbrev et19 : ETy := ⟨1, 8⟩
theorem el19 : elemB Try.prog 19 et19 = true := by kernel_rfl
theorem z19 : zeroCells Try.prog 19 = some [.pointer none] := by kernel_rfl
theorem ty20 : tySz Try.prog 20 = some (false, 1, 16) := by kernel_rfl
theorem us20 : (Try.prog.underlying 20).isSome = true := by kernel_rfl
abbrev et20 : ETy := ⟨1, 16⟩
theorem el20 : elemB Try.prog 20 et20 = true := by kernel_rfl
theorem z20 : zeroCells Try.prog 20 = some [.nilIface] := by kernel_rfl
theorem ty21 : tySz Try.prog 21 = some (false, 1, 4) := by kernel_rfl
theorem us21 : (Try.prog.underlying 21).isSome = true := by kernel_rfl
theorem iu21 : Try.prog.underlying 21 = some (.int .i32) := by kernel_rfl
abbrev et21 : ETy := ⟨1, 4⟩
theorem el21 : elemB Try.prog 21 et21 = true := by kernel_rfl
theorem z21 : zeroCells Try.prog 21 = some [.int .i32 0] := by kernel_rfl
theorem ty22 : tySz Try.prog 22 = some (false, 1, 8) := by kernel_rfl
theorem us22 : (Try.prog.underlying 22).isSome = true := by kernel_rfl
theorem iu22 : Try.prog.underlying 22 = some (.int .u64) := by kernel_rfl
abbrev et22 : ETy := ⟨1, 8⟩
theorem el22 : elemB Try.prog 22 et22 = true := by kernel_rfl
theorem z22 : zeroCells Try.prog 22 = some [.int .u64 0] := by kernel_rfl
theorem ty23 : tySz Try.prog 23 = some (false, 1, 24) := by kernel_rfl
theorem us23 : (Try.prog.underlying 23).isSome = true := by kernel_rfl
theorem sl23 : Try.prog.underlying 23 = some (.slice 9) := by kernel_rfl
abbrev et23 : ETy := ⟨1, 24⟩
theorem el23 : elemB Try.prog 23 et23 = true := by kernel_rfl
theorem z23 : zeroCells Try.prog 23 = some [.slice none 0 0] := by kernel_rfl
theorem ty24 : tySz Try.prog 24 = some (false, 1, 24) := by kernel_rfl
theorem us24 : (Try.prog.underlying 24).isSome = true := by kernel_rfl
theorem sl24 : Try.prog.underlying 24 = some (.slice 26) := by kernel_rfl
abbrev et24 : ETy := ⟨1, 24⟩
theorem el24 : elemB Try.prog 24 et24 = true := by kernel_rfl
theorem z24 : zeroCells Try.prog 24 = some [.slice none 0 0] := by kernel_rfl
theorem ty25 : tySz Try.prog 25 = some (true, 5, 80) := by kernel_rfl
theorem us25 : (Try.prog.underlying 25).isSome = true := by kernel_rfl
theorem pl25 : placesOf Try.prog 25 = some [(0, 1), (1, 1), (2, 1), (3, 1), (4, 1)] := by kernel_rfl
theorem fo25_0 : fieldOff Try.prog 25 0 = some 0 := by kernel_rfl
theorem fo25_1 : fieldOff Try.prog 25 1 = some 1 := by kernel_rfl
theorem fo25_2 : fieldOff Try.prog 25 2 = some 2 := by kernel_rfl
theorem fo25_3 : fieldOff Try.prog 25 3 = some 3 := by kernel_rfl
theorem fo25_4 : fieldOff Try.prog 25 4 = some 4 := by kernel_rfl
abbrev et25 : ETy := ⟨5, 80⟩
theorem el25 : elemB Try.prog 25 et25 = true := by kernel_rfl
theorem z25 : zeroCells Try.prog 25 = some [.int .i64 0, .int .u64 0, str [], .slice none 0 0, .slice none 0 0] := by kernel_rfl
theorem ty26 : tySz Try.prog 26 = some (true, 5, 80) := by kernel_rfl
theorem us26 : (Try.prog.underlying 26).isSome = true := by kernel_rfl
theorem pl26 : placesOf Try.prog 26 = some [(0, 1), (1, 1), (2, 1), (3, 1), (4, 1)] := by kernel_rfl
theorem fo26_0 : fieldOff Try.prog 26 0 = some 0 := by kernel_rfl
theorem fo26_1 : fieldOff Try.prog 26 1 = some 1 := by kernel_rfl
theorem fo26_2 : fieldOff Try.prog 26 2 = some 2 := by kernel_rfl
theorem fo26_3 : fieldOff Try.prog 26 3 = some 3 := by kernel_rfl
theorem fo26_4 : fieldOff Try.prog 26 4 = some 4 := by kernel_rfl
abbrev et26 : ETy := ⟨5, 80⟩
theorem el26 : elemB Try.prog 26 et26 = true := by kernel_rfl
theorem z26 : zeroCells Try.prog 26 = some [.int .i64 0, .int .u64 0, str [], .slice none 0 0, .slice none 0 0] := by kernel_rfl
theorem ty27 : tySz Try.prog 27 = some (false, 1, 8) := by kernel_rfl
theorem us27 : (Try.prog.underlying 27).isSome = true := by kernel_rfl
abbrev et27 : ETy := ⟨1, 8⟩
theorem el27 : elemB Try.prog 27 et27 = true := by kernel_rfl
theorem z27 : zeroCells Try.prog 27 = some [.nilFunc] := by kernel_rfl
theorem ty28 : tySz Try.prog 28 = some (false, 1, 8) := by kernel_rfl
theorem us28 : (Try.prog.underlying 28).isSome = true := by kernel_rfl
theorem iu28 : Try.prog.underlying 28 = some (.int .i64) := by kernel_rfl
abbrev et28 : ETy := ⟨1, 8⟩
theorem el28 : elemB Try.prog 28 et28 = true := by kernel_rfl
theorem z28 : zeroCells Try.prog 28 = some [.int .i64 0] := by kernel_rfl
theorem ty29 : tySz Try.prog 29 = some (false, 1, 0) := by kernel_rfl
theorem us29 : (Try.prog.underlying 29).isSome = true := by kernel_rfl
theorem ty30 : tySz Try.prog 30 = some (false, 1, 8) := by kernel_rfl
theorem us30 : (Try.prog.underlying 30).isSome = true := by kernel_rfl
abbrev et30 : ETy := ⟨1, 8⟩
theorem el30 : elemB Try.prog 30 et30 = true := by kernel_rfl
theorem z30 : zeroCells Try.prog 30 = some [.nilFunc] := by kernel_rfl
theorem ty31 : tySz Try.prog 31 = some (false, 1, 0) := by kernel_rfl
theorem us31 : (Try.prog.underlying 31).isSome = true := by kernel_rfl
theorem ty32 : tySz Try.prog 32 = some (false, 1, 8) := by kernel_rfl
theorem us32 : (Try.prog.underlying 32).isSome = true := by kernel_rfl
abbrev et32 : ETy := ⟨1, 8⟩
theorem el32 : elemB Try.prog 32 et32 = true := by kernel_rfl
theorem z32 : zeroCells Try.prog 32 = some [.nilFunc] := by kernel_rfl
theorem ty33 : tySz Try.prog 33 = some (false, 1, 8) := by kernel_rfl
theorem us33 : (Try.prog.underlying 33).isSome = true := by kernel_rfl
abbrev et33 : ETy := ⟨1, 8⟩
theorem el33 : elemB Try.prog 33 et33 = true := by kernel_rfl
theorem z33 : zeroCells Try.prog 33 = some [.nilFunc] := by kernel_rfl
theorem ty34 : tySz Try.prog 34 = some (false, 1, 8) := by kernel_rfl
theorem us34 : (Try.prog.underlying 34).isSome = true := by kernel_rfl
abbrev et34 : ETy := ⟨1, 8⟩
theorem el34 : elemB Try.prog 34 et34 = true := by kernel_rfl
theorem z34 : zeroCells Try.prog 34 = some [.nilFunc] := by kernel_rfl
theorem ty35 : tySz Try.prog 35 = some (false, 1, 8) := by kernel_rfl
theorem us35 : (Try.prog.underlying 35).isSome = true := by kernel_rfl
abbrev et35 : ETy := ⟨1, 8⟩
theorem el35 : elemB Try.prog 35 et35 = true := by kernel_rfl
theorem z35 : zeroCells Try.prog 35 = some [.nilFunc] := by kernel_rfl
theorem ty36 : tySz Try.prog 36 = some (false, 1, 8) := by kernel_rfl
theorem us36 : (Try.prog.underlying 36).isSome = true := by kernel_rfl
abbrev et36 : ETy := ⟨1, 8⟩
theorem el36 : elemB Try.prog 36 et36 = true := by kernel_rfl
theorem z36 : zeroCells Try.prog 36 = some [.nilFunc] := by kernel_rfl
theorem ty37 : tySz Try.prog 37 = some (false, 1, 8) := by kernel_rfl
theorem us37 : (Try.prog.underlying 37).isSome = true := by kernel_rfl
abbrev et37 : ETy := ⟨1, 8⟩
theorem el37 : elemB Try.prog 37 et37 = true := by kernel_rfl
theorem z37 : zeroCells Try.prog 37 = some [.nilFunc] := by kernel_rfl
theorem ty38 : tySz Try.prog 38 = some (false, 1, 8) := by kernel_rfl
theorem us38 : (Try.prog.underlying 38).isSome = true := by kernel_rfl
abbrev et38 : ETy := ⟨1, 8⟩
theorem el38 : elemB Try.prog 38 et38 = true := by kernel_rfl
theorem z38 : zeroCells Try.prog 38 = some [.nilFunc] := by kernel_rfl
theorem ty39 : tySz Try.prog 39 = some (false, 1, 24) := by kernel_rfl
theorem us39 : (Try.prog.underlying 39).isSome = true := by kernel_rfl
theorem sl39 : Try.prog.underlying 39 = some (.slice 48) := by kernel_rfl
abbrev et39 : ETy := ⟨1, 24⟩
theorem el39 : elemB Try.prog 39 et39 = true := by kernel_rfl
theorem z39 : zeroCells Try.prog 39 = some [.slice none 0 0] := by kernel_rfl
theorem ty40 : tySz Try.prog 40 = some (false, 1, 0) := by kernel_rfl
theorem us40 : (Try.prog.underlying 40).isSome = true := by kernel_rfl
theorem ty41 : tySz Try.prog 41 = some (false, 1, 8) := by kernel_rfl
theorem us41 : (Try.prog.underlying 41).isSome = true := by kernel_rfl
abbrev et41 : ETy := ⟨1, 8⟩
theorem el41 : elemB Try.prog 41 et41 = true := by kernel_rfl
theorem z41 : zeroCells Try.prog 41 = some [.nilFunc] := by kernel_rfl
theorem ty42 : tySz Try.prog 42 = some (false, 1, 0) := by kernel_rfl
theorem us42 : (Try.prog.underlying 42).isSome = true := by kernel_rfl
theorem ty43 : tySz Try.prog 43 = some (false, 1, 8) := by kernel_rfl
theorem us43 : (Try.prog.underlying 43).isSome = true := by kernel_rfl
abbrev et43 : ETy := ⟨1, 8⟩
theorem el43 : elemB Try.prog 43 et43 = true := by kernel_rfl
theorem z43 : zeroCells Try.prog 43 = some [.nilFunc] := by kernel_rfl
theorem ty44 : tySz Try.prog 44 = some (false, 1, 8) := by kernel_rfl
theorem us44 : (Try.prog.underlying 44).isSome = true := by kernel_rfl
abbrev et44 : ETy := ⟨1, 8⟩
theorem el44 : elemB Try.prog 44 et44 = true := by kernel_rfl
theorem z44 : zeroCells Try.prog 44 = some [.nilFunc] := by kernel_rfl
theorem ty45 : tySz Try.prog 45 = some (false, 1, 8) := by kernel_rfl
theorem us45 : (Try.prog.underlying 45).isSome = true := by kernel_rfl
abbrev et45 : ETy := ⟨1, 8⟩
theorem el45 : elemB Try.prog 45 et45 = true := by kernel_rfl
theorem z45 : zeroCells Try.prog 45 = some [.nilFunc] := by kernel_rfl
theorem ty46 : tySz Try.prog 46 = some (false, 1, 8) := by kernel_rfl
theorem us46 : (Try.prog.underlying 46).isSome = true := by kernel_rfl
abbrev et46 : ETy := ⟨1, 8⟩
theorem el46 : elemB Try.prog 46 et46 = true := by kernel_rfl
theorem z46 : zeroCells Try.prog 46 = some [.nilFunc] := by kernel_rfl
theorem ty47 : tySz Try.prog 47 = some (true, 3, 32) := by kernel_rfl
theorem us47 : (Try.prog.underlying 47).isSome = true := by kernel_rfl
theorem pl47 : placesOf Try.prog 47 = some [(0, 1), (1, 1), (2, 1)] := by kernel_rfl
theorem fo47_0 : fieldOff Try.prog 47 0 = some 0 := by kernel_rfl
theorem fo47_1 : fieldOff Try.prog 47 1 = some 1 := by kernel_rfl
theorem fo47_2 : fieldOff Try.prog 47 2 = some 2 := by kernel_rfl
abbrev et47 : ETy := ⟨3, 32⟩
theorem el47 : elemB Try.prog 47 et47 = true := by kernel_rfl
theorem z47 : zeroCells Try.prog 47 = some [.bool false, str [], .int .i64 0] := by kernel_rfl
theorem ty48 : tySz Try.prog 48 = some (true, 3, 32) := by kernel_rfl
theorem us48 : (Try.prog.underlying 48).isSome = true := by kernel_rfl
theorem pl48 : placesOf Try.prog 48 = some [(0, 1), (1, 1), (2, 1)] := by kernel_rfl
theorem fo48_0 : fieldOff Try.prog 48 0 = some 0 := by kernel_rfl
theorem fo48_1 : fieldOff Try.prog 48 1 = some 1 := by kernel_rfl
theorem fo48_2 : fieldOff Try.prog 48 2 = some 2 := by kernel_rfl
abbrev et48 : ETy := ⟨3, 32⟩
theorem el48 : elemB Try.prog 48 et48 = true := by kernel_rfl
theorem z48 : zeroCells Try.prog 48 = some [.bool false, str [], .int .i64 0] := by kernel_rfl
theorem ty49 : tySz Try.prog 49 = some (false, 1, 8) := by kernel_rfl
theorem us49 : (Try.prog.underlying 49).isSome = true := by kernel_rfl
abbrev et49 : ETy := ⟨1, 8⟩
theorem el49 : elemB Try.prog 49 et49 = true := by kernel_rfl
theorem z49 : zeroCells Try.prog 49 = some [.nilFunc] := by kernel_rfl
theorem ty50 : tySz Try.prog 50 = some (false, 1, 8) := by kernel_rfl
theorem us50 : (Try.prog.underlying 50).isSome = true := by kernel_rfl
abbrev et50 : ETy := ⟨1, 8⟩
theorem el50 : elemB Try.prog 50 et50 = true := by kernel_rfl
theorem z50 : zeroCells Try.prog 50 = some [.nilFunc] := by kernel_rfl
theorem ty51 : tySz Try.prog 51 = some (false, 1, 0) := by kernel_rfl
theorem us51 : (Try.prog.underlying 51).isSome = true := by kernel_rfl
theorem ty52 : tySz Try.prog 52 = some (false, 1, 8) := by kernel_rfl
theorem us52 : (Try.prog.underlying 52).isSome = true := by kernel_rfl
abbrev et52 : ETy := ⟨1, 8⟩
theorem el52 : elemB Try.prog 52 et52 = true := by kernel_rfl
theorem z52 : zeroCells Try.prog 52 = some [.nilFunc] := by kernel_rfl
theorem ty53 : tySz Try.prog 53 = some (false, 1, 8) := by kernel_rfl
theorem us53 : (Try.prog.underlying 53).isSome = true := by kernel_rfl
abbrev et53 : ETy := ⟨1, 8⟩
theorem el53 : elemB Try.prog 53 et53 = true := by kernel_rfl
theorem z53 : zeroCells Try.prog 53 = some [.nilFunc] := by kernel_rfl
theorem ty54 : tySz Try.prog 54 = some (false, 1, 0) := by kernel_rfl
theorem us54 : (Try.prog.underlying 54).isSome = true := by kernel_rfl
theorem ty55 : tySz Try.prog 55 = some (false, 1, 8) := by kernel_rfl
theorem us55 : (Try.prog.underlying 55).isSome = true := by kernel_rfl
abbrev et55 : ETy := ⟨1, 8⟩
theorem el55 : elemB Try.prog 55 et55 = true := by kernel_rfl
theorem z55 : zeroCells Try.prog 55 = some [.nilFunc] := by kernel_rfl
theorem ty56 : tySz Try.prog 56 = some (false, 1, 24) := by kernel_rfl
theorem us56 : (Try.prog.underlying 56).isSome = true := by kernel_rfl
theorem sl56 : Try.prog.underlying 56 = some (.slice 70) := by kernel_rfl
abbrev et56 : ETy := ⟨1, 24⟩
theorem el56 : elemB Try.prog 56 et56 = true := by kernel_rfl
theorem z56 : zeroCells Try.prog 56 = some [.slice none 0 0] := by kernel_rfl
theorem ty57 : tySz Try.prog 57 = some (true, 3, 40) := by kernel_rfl
theorem us57 : (Try.prog.underlying 57).isSome = true := by kernel_rfl
theorem pl57 : placesOf Try.prog 57 = some [(0, 1), (1, 1), (2, 1)] := by kernel_rfl
theorem fo57_0 : fieldOff Try.prog 57 0 = some 0 := by kernel_rfl
theorem fo57_1 : fieldOff Try.prog 57 1 = some 1 := by kernel_rfl
theorem fo57_2 : fieldOff Try.prog 57 2 = some 2 := by kernel_rfl
abbrev et57 : ETy := ⟨3, 40⟩
theorem el57 : elemB Try.prog 57 et57 = true := by kernel_rfl
theorem z57 : zeroCells Try.prog 57 = some [.int .i64 0, .int .i64 0, .slice none 0 0] := by kernel_rfl
theorem ty58 : tySz Try.prog 58 = some (true, 3, 40) := by kernel_rfl
theorem us58 : (Try.prog.underlying 58).isSome = true := by kernel_rfl
theorem pl58 : placesOf Try.prog 58 = some [(0, 1), (1, 1), (2, 1)] := by kernel_rfl
theorem fo58_0 : fieldOff Try.prog 58 0 = some 0 := by kernel_rfl
theorem fo58_1 : fieldOff Try.prog 58 1 = some 1 := by kernel_rfl
theorem fo58_2 : fieldOff Try.prog 58 2 = some 2 := by kernel_rfl
abbrev et58 : ETy := ⟨3, 40⟩
theorem el58 : elemB Try.prog 58 et58 = true := by kernel_rfl
theorem z58 : zeroCells Try.prog 58 = some [.int .i64 0, .int .i64 0, .slice none 0 0] := by kernel_rfl
theorem ty59 : tySz Try.prog 59 = some (false, 1, 0) := by kernel_rfl
theorem us59 : (Try.prog.underlying 59).isSome = true := by kernel_rfl
theorem ty60 : tySz Try.prog 60 = some (false, 1, 8) := by kernel_rfl
theorem us60 : (Try.prog.underlying 60).isSome = true := by kernel_rfl
abbrev et60 : ETy := ⟨1, 8⟩
theorem el60 : elemB Try.prog 60 et60 = true := by kernel_rfl
theorem z60 : zeroCells Try.prog 60 = some [.nilFunc] := by kernel_rfl
theorem ty61 : tySz Try.prog 61 = some (true, 3, 40) := by kernel_rfl
theorem us61 : (Try.prog.underlying 61).isSome = true := by kernel_rfl
theorem pl61 : placesOf Try.prog 61 = some [(0, 1), (1, 1), (2, 1)] := by kernel_rfl
theorem fo61_0 : fieldOff Try.prog 61 0 = some 0 := by kernel_rfl
theorem fo61_1 : fieldOff Try.prog 61 1 = some 1 := by kernel_rfl
theorem fo61_2 : fieldOff Try.prog 61 2 = some 2 := by kernel_rfl
abbrev et61 : ETy := ⟨3, 40⟩
theorem el61 : elemB Try.prog 61 et61 = true := by kernel_rfl
theorem z61 : zeroCells Try.prog 61 = some [.int .i64 0, .int .i64 0, .slice none 0 0] := by kernel_rfl
theorem ty62 : tySz Try.prog 62 = some (false, 1, 0) := by kernel_rfl
theorem us62 : (Try.prog.underlying 62).isSome = true := by kernel_rfl
theorem ty63 : tySz Try.prog 63 = some (false, 1, 8) := by kernel_rfl
theorem us63 : (Try.prog.underlying 63).isSome = true := by kernel_rfl
abbrev et63 : ETy := ⟨1, 8⟩
theorem el63 : elemB Try.prog 63 et63 = true := by kernel_rfl
theorem z63 : zeroCells Try.prog 63 = some [.nilFunc] := by kernel_rfl
theorem ty64 : tySz Try.prog 64 = some (false, 1, 8) := by kernel_rfl
theorem us64 : (Try.prog.underlying 64).isSome = true := by kernel_rfl
abbrev et64 : ETy := ⟨1, 8⟩
theorem el64 : elemB Try.prog 64 et64 = true := by kernel_rfl
theorem z64 : zeroCells Try.prog 64 = some [.nilFunc] := by kernel_rfl
theorem ty65 : tySz Try.prog 65 = some (false, 1, 8) := by kernel_rfl
theorem us65 : (Try.prog.underlying 65).isSome = true := by kernel_rfl
abbrev et65 : ETy := ⟨1, 8⟩
theorem el65 : elemB Try.prog 65 et65 = true := by kernel_rfl
theorem z65 : zeroCells Try.prog 65 = some [.nilFunc] := by kernel_rfl
theorem ty66 : tySz Try.prog 66 = some (false, 1, 24) := by kernel_rfl
theorem us66 : (Try.prog.underlying 66).isSome = true := by kernel_rfl
theorem sl66 : Try.prog.underlying 66 = some (.slice 3) := by kernel_rfl
abbrev et66 : ETy := ⟨1, 24⟩
theorem el66 : elemB Try.prog 66 et66 = true := by kernel_rfl
theorem z66 : zeroCells Try.prog 66 = some [.slice none 0 0] := by kernel_rfl
theorem ty67 : tySz Try.prog 67 = some (false, 1, 0) := by kernel_rfl
theorem us67 : (Try.prog.underlying 67).isSome = true := by kernel_rfl
theorem ty68 : tySz Try.prog 68 = some (false, 1, 8) := by kernel_rfl
theorem us68 : (Try.prog.underlying 68).isSome = true := by kernel_rfl
abbrev et68 : ETy := ⟨1, 8⟩
theorem el68 : elemB Try.prog 68 et68 = true := by kernel_rfl
theorem z68 : zeroCells Try.prog 68 = some [.nilFunc] := by kernel_rfl
theorem ty69 : tySz Try.prog 69 = some (true, 6, 96) := by kernel_rfl
theorem us69 : (Try.prog.underlying 69).isSome = true := by kernel_rfl
theorem pl69 : placesOf Try.prog 69 = some [(0, 1), (1, 5)] := by kernel_rfl
theorem fo69_0 : fieldOff Try.prog 69 0 = some 0 := by kernel_rfl
theorem fo69_1 : fieldOff Try.prog 69 1 = some 1 := by kernel_rfl
abbrev et69 : ETy := ⟨6, 96⟩
theorem el69 : elemB Try.prog 69 et69 = true := by kernel_rfl
theorem z69 : zeroCells Try.prog 69 = some [str [], .int .i64 0, .int .u64 0, str [], .slice none 0 0, .slice none 0 0] := by kernel_rfl
theorem ty70 : tySz Try.prog 70 = some (true, 6, 96) := by kernel_rfl
theorem us70 : (Try.prog.underlying 70).isSome = true := by kernel_rfl
theorem pl70 : placesOf Try.prog 70 = some [(0, 1), (1, 5)] := by kernel_rfl
theorem fo70_0 : fieldOff Try.prog 70 0 = some 0 := by kernel_rfl
theorem fo70_1 : fieldOff Try.prog 70 1 = some 1 := by kernel_rfl
abbrev et70 : ETy := ⟨6, 96⟩
theorem el70 : elemB Try.prog 70 et70 = true := by kernel_rfl
theorem z70 : zeroCells Try.prog 70 = some [str [], .int .i64 0, .int .u64 0, str [], .slice none 0 0, .slice none 0 0] := by kernel_rfl
theorem ty71 : tySz Try.prog 71 = some (false, 1, 0) := by kernel_rfl
theorem us71 : (Try.prog.underlying 71).isSome = true := by kernel_rfl
theorem ty72 : tySz Try.prog 72 = some (false, 1, 8) := by kernel_rfl
theorem us72 : (Try.prog.underlying 72).isSome = true := by kernel_rfl
abbrev et72 : ETy := ⟨1, 8⟩
theorem el72 : elemB Try.prog 72 et72 = true := by kernel_rfl
theorem z72 : zeroCells Try.prog 72 = some [.nilFunc] := by kernel_rfl
theorem ty73 : tySz Try.prog 73 = some (false, 1, 8) := by kernel_rfl
theorem us73 : (Try.prog.underlying 73).isSome = true := by kernel_rfl
abbrev et73 : ETy := ⟨1, 8⟩
theorem el73 : elemB Try.prog 73 et73 = true := by kernel_rfl
theorem z73 : zeroCells Try.prog 73 = some [.nilFunc] := by kernel_rfl
theorem ty74 : tySz Try.prog 74 = some (false, 1, 8) := by kernel_rfl
theorem us74 : (Try.prog.underlying 74).isSome = true := by kernel_rfl
abbrev et74 : ETy := ⟨1, 8⟩
theorem el74 : elemB Try.prog 74 et74 = true := by kernel_rfl
theorem z74 : zeroCells Try.prog 74 = some [.nilFunc] := by kernel_rfl
theorem ty75 : tySz Try.prog 75 = some (false, 1, 8) := by kernel_rfl
theorem us75 : (Try.prog.underlying 75).isSome = true := by kernel_rfl
abbrev et75 : ETy := ⟨1, 8⟩
theorem el75 : elemB Try.prog 75 et75 = true := by kernel_rfl
theorem z75 : zeroCells Try.prog 75 = some [.nilFunc] := by kernel_rfl
theorem ty76 : tySz Try.prog 76 = some (false, 1, 0) := by kernel_rfl
theorem us76 : (Try.prog.underlying 76).isSome = true := by kernel_rfl
theorem ty77 : tySz Try.prog 77 = some (false, 1, 8) := by kernel_rfl
theorem us77 : (Try.prog.underlying 77).isSome = true := by kernel_rfl
abbrev et77 : ETy := ⟨1, 8⟩
theorem el77 : elemB Try.prog 77 et77 = true := by kernel_rfl
theorem z77 : zeroCells Try.prog 77 = some [.nilFunc] := by kernel_rfl
theorem ty78 : tySz Try.prog 78 = some (false, 1, 0) := by kernel_rfl
theorem us78 : (Try.prog.underlying 78).isSome = true := by kernel_rfl
theorem ty79 : tySz Try.prog 79 = some (false, 1, 8) := by kernel_rfl
theorem us79 : (Try.prog.underlying 79).isSome = true := by kernel_rfl
abbrev et79 : ETy := ⟨1, 8⟩
theorem el79 : elemB Try.prog 79 et79 = true := by kernel_rfl
theorem z79 : zeroCells Try.prog 79 = some [.nilFunc] := by kernel_rfl
theorem ty80 : tySz Try.prog 80 = some (false, 1, 8) := by kernel_rfl
theorem us80 : (Try.prog.underlying 80).isSome = true := by kernel_rfl
abbrev et80 : ETy := ⟨1, 8⟩
theorem el80 : elemB Try.prog 80 et80 = true := by kernel_rfl
theorem z80 : zeroCells Try.prog 80 = some [.nilFunc] := by kernel_rfl
theorem ty81 : tySz Try.prog 81 = some (false, 1, 0) := by kernel_rfl
theorem us81 : (Try.prog.underlying 81).isSome = true := by kernel_rfl
theorem ty82 : tySz Try.prog 82 = some (false, 1, 8) := by kernel_rfl
theorem us82 : (Try.prog.underlying 82).isSome = true := by kernel_rfl
abbrev et82 : ETy := ⟨1, 8⟩
theorem el82 : elemB Try.prog 82 et82 = true := by kernel_rfl
theorem z82 : zeroCells Try.prog 82 = some [.nilFunc] := by kernel_rfl
theorem ty83 : tySz Try.prog 83 = some (false, 1, 0) := by kernel_rfl
theorem us83 : (Try.prog.underlying 83).isSome = true := by kernel_rfl
theorem ty84 : tySz Try.prog 84 = some (false, 1, 8) := by kernel_rfl
theorem us84 : (Try.prog.underlying 84).isSome = true := by kernel_rfl
abbrev et84 : ETy := ⟨1, 8⟩
theorem el84 : elemB Try.prog 84 et84 = true := by kernel_rfl
theorem z84 : zeroCells Try.prog 84 = some [.nilFunc] := by kernel_rfl
theorem ty85 : tySz Try.prog 85 = some (false, 1, 8) := by kernel_rfl
theorem us85 : (Try.prog.underlying 85).isSome = true := by kernel_rfl
abbrev et85 : ETy := ⟨1, 8⟩
theorem el85 : elemB Try.prog 85 et85 = true := by kernel_rfl
theorem z85 : zeroCells Try.prog 85 = some [.nilFunc] := by kernel_rfl
theorem ty86 : tySz Try.prog 86 = some (false, 1, 8) := by kernel_rfl
theorem us86 : (Try.prog.underlying 86).isSome = true := by kernel_rfl
abbrev et86 : ETy := ⟨1, 8⟩
theorem el86 : elemB Try.prog 86 et86 = true := by kernel_rfl
theorem z86 : zeroCells Try.prog 86 = some [.nilFunc] := by kernel_rfl
theorem ty87 : tySz Try.prog 87 = some (false, 1, 8) := by kernel_rfl
theorem us87 : (Try.prog.underlying 87).isSome = true := by kernel_rfl
abbrev et87 : ETy := ⟨1, 8⟩
theorem el87 : elemB Try.prog 87 et87 = true := by kernel_rfl
theorem z87 : zeroCells Try.prog 87 = some [.nilFunc] := by kernel_rfl
theorem ty88 : tySz Try.prog 88 = some (false, 1, 24) := by kernel_rfl
theorem us88 : (Try.prog.underlying 88).isSome = true := by kernel_rfl
theorem sl88 : Try.prog.underlying 88 = some (.slice 116) := by kernel_rfl
abbrev et88 : ETy := ⟨1, 24⟩
theorem el88 : elemB Try.prog 88 et88 = true := by kernel_rfl
theorem z88 : zeroCells Try.prog 88 = some [.slice none 0 0] := by kernel_rfl
theorem ty89 : tySz Try.prog 89 = some (true, 2, 32) := by kernel_rfl
theorem us89 : (Try.prog.underlying 89).isSome = true := by kernel_rfl
theorem pl89 : placesOf Try.prog 89 = some [(0, 1), (1, 1)] := by kernel_rfl
theorem fo89_0 : fieldOff Try.prog 89 0 = some 0 := by kernel_rfl
theorem fo89_1 : fieldOff Try.prog 89 1 = some 1 := by kernel_rfl
abbrev et89 : ETy := ⟨2, 32⟩
theorem el89 : elemB Try.prog 89 et89 = true := by kernel_rfl
theorem z89 : zeroCells Try.prog 89 = some [.int .i64 0, .slice none 0 0] := by kernel_rfl
theorem ty90 : tySz Try.prog 90 = some (true, 2, 32) := by kernel_rfl
theorem us90 : (Try.prog.underlying 90).isSome = true := by kernel_rfl
theorem pl90 : placesOf Try.prog 90 = some [(0, 1), (1, 1)] := by kernel_rfl
theorem fo90_0 : fieldOff Try.prog 90 0 = some 0 := by kernel_rfl
theorem fo90_1 : fieldOff Try.prog 90 1 = some 1 := by kernel_rfl
abbrev et90 : ETy := ⟨2, 32⟩
theorem el90 : elemB Try.prog 90 et90 = true := by kernel_rfl
theorem z90 : zeroCells Try.prog 90 = some [.int .i64 0, .slice none 0 0] := by kernel_rfl
theorem ty91 : tySz Try.prog 91 = some (false, 1, 24) := by kernel_rfl
theorem us91 : (Try.prog.underlying 91).isSome = true := by kernel_rfl
theorem sl91 : Try.prog.underlying 91 = some (.slice 114) := by kernel_rfl
abbrev et91 : ETy := ⟨1, 24⟩
theorem el91 : elemB Try.prog 91 et91 = true := by kernel_rfl
theorem z91 : zeroCells Try.prog 91 = some [.slice none 0 0] := by kernel_rfl
theorem ty92 : tySz Try.prog 92 = some (true, 2, 32) := by kernel_rfl
theorem us92 : (Try.prog.underlying 92).isSome = true := by kernel_rfl
theorem pl92 : placesOf Try.prog 92 = some [(0, 1), (1, 1)] := by kernel_rfl
theorem fo92_0 : fieldOff Try.prog 92 0 = some 0 := by kernel_rfl
theorem fo92_1 : fieldOff Try.prog 92 1 = some 1 := by kernel_rfl
abbrev et92 : ETy := ⟨2, 32⟩
theorem el92 : elemB Try.prog 92 et92 = true := by kernel_rfl
theorem z92 : zeroCells Try.prog 92 = some [.int .i64 0, .slice none 0 0] := by kernel_rfl
theorem ty93 : tySz Try.prog 93 = some (false, 1, 8) := by kernel_rfl
theorem us93 : (Try.prog.underlying 93).isSome = true := by kernel_rfl
abbrev et93 : ETy := ⟨1, 8⟩
theorem el93 : elemB Try.prog 93 et93 = true := by kernel_rfl
theorem z93 : zeroCells Try.prog 93 = some [.nilFunc] := by kernel_rfl
theorem ty94 : tySz Try.prog 94 = some (false, 1, 8) := by kernel_rfl
theorem us94 : (Try.prog.underlying 94).isSome = true := by kernel_rfl
abbrev et94 : ETy := ⟨1, 8⟩
theorem el94 : elemB Try.prog 94 et94 = true := by kernel_rfl
theorem z94 : zeroCells Try.prog 94 = some [.nilFunc] := by kernel_rfl
theorem ty95 : tySz Try.prog 95 = some (false, 1, 0) := by kernel_rfl
theorem us95 : (Try.prog.underlying 95).isSome = true := by kernel_rfl
theorem ty96 : tySz Try.prog 96 = some (false, 1, 8) := by kernel_rfl
theorem us96 : (Try.prog.underlying 96).isSome = true := by kernel_rfl
abbrev et96 : ETy := ⟨1, 8⟩
theorem el96 : elemB Try.prog 96 et96 = true := by kernel_rfl
theorem z96 : zeroCells Try.prog 96 = some [.nilFunc] := by kernel_rfl
theorem ty97 : tySz Try.prog 97 = some (false, 1, 0) := by kernel_rfl
theorem us97 : (Try.prog.underlying 97).isSome = true := by kernel_rfl
theorem ty98 : tySz Try.prog 98 = some (false, 1, 8) := by kernel_rfl
theorem us98 : (Try.prog.underlying 98).isSome = true := by kernel_rfl
abbrev et98 : ETy := ⟨1, 8⟩
theorem el98 : elemB Try.prog 98 et98 = true := by kernel_rfl
theorem z98 : zeroCells Try.prog 98 = some [.nilFunc] := by kernel_rfl
theorem ty99 : tySz Try.prog 99 = some (false, 1, 0) := by kernel_rfl
theorem us99 : (Try.prog.underlying 99).isSome = true := by kernel_rfl
theorem ty100 : tySz Try.prog 100 = some (false, 1, 8) := by kernel_rfl
theorem us100 : (Try.prog.underlying 100).isSome = true := by kernel_rfl
abbrev et100 : ETy := ⟨1, 8⟩
theorem el100 : elemB Try.prog 100 et100 = true := by kernel_rfl
theorem z100 : zeroCells Try.prog 100 = some [.nilFunc] := by kernel_rfl
theorem ty101 : tySz Try.prog 101 = some (false, 1, 0) := by kernel_rfl
theorem us101 : (Try.prog.underlying 101).isSome = true := by kernel_rfl
theorem ty102 : tySz Try.prog 102 = some (false, 1, 8) := by kernel_rfl
theorem us102 : (Try.prog.underlying 102).isSome = true := by kernel_rfl
abbrev et102 : ETy := ⟨1, 8⟩
theorem el102 : elemB Try.prog 102 et102 = true := by kernel_rfl
theorem z102 : zeroCells Try.prog 102 = some [.nilFunc] := by kernel_rfl
theorem ty103 : tySz Try.prog 103 = some (false, 1, 0) := by kernel_rfl
theorem us103 : (Try.prog.underlying 103).isSome = true := by kernel_rfl
theorem ty104 : tySz Try.prog 104 = some (false, 1, 8) := by kernel_rfl
theorem us104 : (Try.prog.underlying 104).isSome = true := by kernel_rfl
abbrev et104 : ETy := ⟨1, 8⟩
theorem el104 : elemB Try.prog 104 et104 = true := by kernel_rfl
theorem z104 : zeroCells Try.prog 104 = some [.nilFunc] := by kernel_rfl
theorem ty105 : tySz Try.prog 105 = some (false, 1, 0) := by kernel_rfl
theorem us105 : (Try.prog.underlying 105).isSome = true := by kernel_rfl
theorem ty106 : tySz Try.prog 106 = some (false, 1, 8) := by kernel_rfl
theorem us106 : (Try.prog.underlying 106).isSome = true := by kernel_rfl
abbrev et106 : ETy := ⟨1, 8⟩
theorem el106 : elemB Try.prog 106 et106 = true := by kernel_rfl
theorem z106 : zeroCells Try.prog 106 = some [.nilFunc] := by kernel_rfl
theorem ty107 : tySz Try.prog 107 = some (false, 1, 8) := by kernel_rfl
theorem us107 : (Try.prog.underlying 107).isSome = true := by kernel_rfl
abbrev et107 : ETy := ⟨1, 8⟩
theorem el107 : elemB Try.prog 107 et107 = true := by kernel_rfl
theorem z107 : zeroCells Try.prog 107 = some [.nilFunc] := by kernel_rfl
theorem ty108 : tySz Try.prog 108 = some (false, 1, 8) := by kernel_rfl
theorem us108 : (Try.prog.underlying 108).isSome = true := by kernel_rfl
abbrev et108 : ETy := ⟨1, 8⟩
theorem el108 : elemB Try.prog 108 et108 = true := by kernel_rfl
theorem z108 : zeroCells Try.prog 108 = some [.nilFunc] := by kernel_rfl
theorem ty109 : tySz Try.prog 109 = some (false, 1, 8) := by kernel_rfl
theorem us109 : (Try.prog.underlying 109).isSome = true := by kernel_rfl
abbrev et109 : ETy := ⟨1, 8⟩
theorem el109 : elemB Try.prog 109 et109 = true := by kernel_rfl
theorem z109 : zeroCells Try.prog 109 = some [.nilFunc] := by kernel_rfl
theorem ty110 : tySz Try.prog 110 = some (false, 1, 8) := by kernel_rfl
theorem us110 : (Try.prog.underlying 110).isSome = true := by kernel_rfl
abbrev et110 : ETy := ⟨1, 8⟩
theorem el110 : elemB Try.prog 110 et110 = true := by kernel_rfl
theorem z110 : zeroCells Try.prog 110 = some [.nilFunc] := by kernel_rfl
theorem ty111 : tySz Try.prog 111 = some (false, 1, 8) := by kernel_rfl
theorem us111 : (Try.prog.underlying 111).isSome = true := by kernel_rfl
abbrev et111 : ETy := ⟨1, 8⟩
theorem el111 : elemB Try.prog 111 et111 = true := by kernel_rfl
theorem z111 : zeroCells Try.prog 111 = some [.nilFunc] := by kernel_rfl
theorem ty112 : tySz Try.prog 112 = some (false, 1, 8) := by kernel_rfl
theorem us112 : (Try.prog.underlying 112).isSome = true := by kernel_rfl
abbrev et112 : ETy := ⟨1, 8⟩
theorem el112 : elemB Try.prog 112 et112 = true := by kernel_rfl
theorem z112 : zeroCells Try.prog 112 = some [.nilFunc] := by kernel_rfl
theorem ty113 : tySz Try.prog 113 = some (false, 1, 8) := by kernel_rfl
theorem us113 : (Try.prog.underlying 113).isSome = true := by kernel_rfl
abbrev et113 : ETy := ⟨1, 8⟩
theorem el113 : elemB Try.prog 113 et113 = true := by kernel_rfl
theorem z113 : zeroCells Try.prog 113 = some [.nilFunc] := by kernel_rfl
theorem ty114 : tySz Try.prog 114 = some (true, 6, 96) := by kernel_rfl
theorem us114 : (Try.prog.underlying 114).isSome = true := by kernel_rfl
theorem pl114 : placesOf Try.prog 114 = some [(0, 1), (1, 5)] := by kernel_rfl
theorem fo114_0 : fieldOff Try.prog 114 0 = some 0 := by kernel_rfl
theorem fo114_1 : fieldOff Try.prog 114 1 = some 1 := by kernel_rfl
abbrev et114 : ETy := ⟨6, 96⟩
theorem el114 : elemB Try.prog 114 et114 = true := by kernel_rfl
theorem z114 : zeroCells Try.prog 114 = some [str [], .int .i64 0, .int .u64 0, str [], .slice none 0 0, .slice none 0 0] := by kernel_rfl
theorem ty115 : tySz Try.prog 115 = some (true, 7, 104) := by kernel_rfl
theorem us115 : (Try.prog.underlying 115).isSome = true := by kernel_rfl
theorem pl115 : placesOf Try.prog 115 = some [(0, 1), (1, 6)] := by kernel_rfl
theorem fo115_0 : fieldOff Try.prog 115 0 = some 0 := by kernel_rfl
theorem fo115_1 : fieldOff Try.prog 115 1 = some 1 := by kernel_rfl
abbrev et115 : ETy := ⟨7, 104⟩
theorem el115 : elemB Try.prog 115 et115 = true := by kernel_rfl
theorem z115 : zeroCells Try.prog 115 = some [.int .i64 0, str [], .int .i64 0, .int .u64 0, str [], .slice none 0 0, .slice none 0 0] := by kernel_rfl
theorem ty116 : tySz Try.prog 116 = some (true, 7, 104) := by kernel_rfl
theorem us116 : (Try.prog.underlying 116).isSome = true := by kernel_rfl
theorem pl116 : placesOf Try.prog 116 = some [(0, 1), (1, 6)] := by kernel_rfl
theorem fo116_0 : fieldOff Try.prog 116 0 = some 0 := by kernel_rfl
theorem fo116_1 : fieldOff Try.prog 116 1 = some 1 := by kernel_rfl
abbrev et116 : ETy := ⟨7, 104⟩
theorem el116 : elemB Try.prog 116 et116 = true := by kernel_rfl
theorem z116 : zeroCells Try.prog 116 = some [.int .i64 0, str [], .int .i64 0, .int .u64 0, str [], .slice none 0 0, .slice none 0 0] := by kernel_rfl
theorem ty117 : tySz Try.prog 117 = some (false, 1, 8) := by kernel_rfl
theorem us117 : (Try.prog.underlying 117).isSome = true := by kernel_rfl
abbrev et117 : ETy := ⟨1, 8⟩
theorem el117 : elemB Try.prog 117 et117 = true := by kernel_rfl
theorem z117 : zeroCells Try.prog 117 = some [.nilFunc] := by kernel_rfl
theorem ty118 : tySz Try.prog 118 = some (false, 1, 8) := by kernel_rfl
theorem us118 : (Try.prog.underlying 118).isSome = true := by kernel_rfl
abbrev et118 : ETy := ⟨1, 8⟩
theorem el118 : elemB Try.prog 118 et118 = true := by kernel_rfl
theorem z118 : zeroCells Try.prog 118 = some [.nilFunc] := by kernel_rfl
theorem ty119 : tySz Try.prog 119 = some (false, 1, 8) := by kernel_rfl
theorem us119 : (Try.prog.underlying 119).isSome = true := by kernel_rfl
abbrev et119 : ETy := ⟨1, 8⟩
theorem el119 : elemB Try.prog 119 et119 = true := by kernel_rfl
theorem z119 : zeroCells Try.prog 119 = some [.nilFunc] := by kernel_rfl
theorem ty120 : tySz Try.prog 120 = some (false, 1, 8) := by kernel_rfl
theorem us120 : (Try.prog.underlying 120).isSome = true := by kernel_rfl
abbrev et120 : ETy := ⟨1, 8⟩
theorem el120 : elemB Try.prog 120 et120 = true := by kernel_rfl
theorem z120 : zeroCells Try.prog 120 = some [.nilFunc] := by kernel_rfl
theorem ty121 : tySz Try.prog 121 = some (false, 1, 24) := by kernel_rfl
theorem us121 : (Try.prog.underlying 121).isSome = true := by kernel_rfl
theorem sl121 : Try.prog.underlying 121 = some (.slice 5) := by kernel_rfl
abbrev et121 : ETy := ⟨1, 24⟩
theorem el121 : elemB Try.prog 121 et121 = true := by kernel_rfl
theorem z121 : zeroCells Try.prog 121 = some [.slice none 0 0] := by kernel_rfl
theorem ty122 : tySz Try.prog 122 = some (false, 1, 0) := by kernel_rfl
theorem us122 : (Try.prog.underlying 122).isSome = true := by kernel_rfl
theorem ty123 : tySz Try.prog 123 = some (false, 1, 8) := by kernel_rfl
theorem us123 : (Try.prog.underlying 123).isSome = true := by kernel_rfl
abbrev et123 : ETy := ⟨1, 8⟩
theorem el123 : elemB Try.prog 123 et123 = true := by kernel_rfl
theorem z123 : zeroCells Try.prog 123 = some [.nilFunc] := by kernel_rfl
theorem ty124 : tySz Try.prog 124 = some (false, 1, 8) := by kernel_rfl
theorem us124 : (Try.prog.underlying 124).isSome = true := by kernel_rfl
abbrev et124 : ETy := ⟨1, 8⟩
theorem el124 : elemB Try.prog 124 et124 = true := by kernel_rfl
theorem z124 : zeroCells Try.prog 124 = some [.nilFunc] := by kernel_rfl
theorem ty125 : tySz Try.prog 125 = some (false, 1, 0) := by kernel_rfl
theorem us125 : (Try.prog.underlying 125).isSome = true := by kernel_rfl
theorem ty126 : tySz Try.prog 126 = some (true, 2, 16) := by kernel_rfl
theorem us126 : (Try.prog.underlying 126).isSome = true := by kernel_rfl
theorem pl126 : placesOf Try.prog 126 = some [(0, 1), (1, 1)] := by kernel_rfl
theorem fo126_0 : fieldOff Try.prog 126 0 = some 0 := by kernel_rfl
theorem fo126_1 : fieldOff Try.prog 126 1 = some 1 := by kernel_rfl
abbrev et126 : ETy := ⟨2, 16⟩
theorem el126 : elemB Try.prog 126 et126 = true := by kernel_rfl
theorem z126 : zeroCells Try.prog 126 = some [.int .i64 0, .int .i64 0] := by kernel_rfl
theorem ty127 : tySz Try.prog 127 = some (true, 2, 16) := by kernel_rfl
theorem us127 : (Try.prog.underlying 127).isSome = true := by kernel_rfl
theorem pl127 : placesOf Try.prog 127 = some [(0, 1), (1, 1)] := by kernel_rfl
theorem fo127_0 : fieldOff Try.prog 127 0 = some 0 := by kernel_rfl
theorem fo127_1 : fieldOff Try.prog 127 1 = some 1 := by kernel_rfl
abbrev et127 : ETy := ⟨2, 16⟩
theorem el127 : elemB Try.prog 127 et127 = true := by kernel_rfl
theorem z127 : zeroCells Try.prog 127 = some [.int .i64 0, .int .i64 0] := by kernel_rfl
theorem ty128 : tySz Try.prog 128 = some (false, 1, 8) := by kernel_rfl
theorem us128 : (Try.prog.underlying 128).isSome = true := by kernel_rfl
abbrev et128 : ETy := ⟨1, 8⟩
theorem el128 : elemB Try.prog 128 et128 = true := by kernel_rfl
theorem z128 : zeroCells Try.prog 128 = some [.nilFunc] := by kernel_rfl
theorem ty129 : tySz Try.prog 129 = some (false, 1, 8) := by kernel_rfl
theorem us129 : (Try.prog.underlying 129).isSome = true := by kernel_rfl
abbrev et129 : ETy := ⟨1, 8⟩
theorem el129 : elemB Try.prog 129 et129 = true := by kernel_rfl
theorem z129 : zeroCells Try.prog 129 = some [.nilFunc] := by kernel_rfl
theorem ty130 : tySz Try.prog 130 = some (false, 1, 8) := by kernel_rfl
theorem us130 : (Try.prog.underlying 130).isSome = true := by kernel_rfl
abbrev et130 : ETy := ⟨1, 8⟩
theorem el130 : elemB Try.prog 130 et130 = true := by kernel_rfl
theorem z130 : zeroCells Try.prog 130 = some [.nilFunc] := by kernel_rfl
theorem ty131 : tySz Try.prog 131 = some (false, 1, 8) := by kernel_rfl
theorem us131 : (Try.prog.underlying 131).isSome = true := by kernel_rfl
abbrev et131 : ETy := ⟨1, 8⟩
theorem el131 : elemB Try.prog 131 et131 = true := by kernel_rfl
theorem z131 : zeroCells Try.prog 131 = some [.nilFunc] := by kernel_rfl
theorem ty132 : tySz Try.prog 132 = some (false, 1, 8) := by kernel_rfl
theorem us132 : (Try.prog.underlying 132).isSome = true := by kernel_rfl
abbrev et132 : ETy := ⟨1, 8⟩
theorem el132 : elemB Try.prog 132 et132 = true := by kernel_rfl
theorem z132 : zeroCells Try.prog 132 = some [.nilFunc] := by kernel_rfl
theorem ty133 : tySz Try.prog 133 = some (true, 10, 160) := by kernel_rfl
theorem us133 : (Try.prog.underlying 133).isSome = true := by kernel_rfl
abbrev et133 : ETy := ⟨10, 160⟩
theorem el133 : elemB Try.prog 133 et133 = true := by kernel_rfl
theorem z133 : zeroCells Try.prog 133 = some [.int .i64 0, .int .u64 0, str [], .slice none 0 0, .slice none 0 0, .int .i64 0, .int .u64 0, str [], .slice none 0 0, .slice none 0 0] := by kernel_rfl
theorem ty134 : tySz Try.prog 134 = some (false, 1, 8) := by kernel_rfl
theorem us134 : (Try.prog.underlying 134).isSome = true := by kernel_rfl
abbrev et134 : ETy := ⟨1, 8⟩
theorem el134 : elemB Try.prog 134 et134 = true := by kernel_rfl
theorem z134 : zeroCells Try.prog 134 = some [.pointer none] := by kernel_rfl
theorem ty135 : tySz Try.prog 135 = some (false, 1, 8) := by kernel_rfl
theorem us135 : (Try.prog.underlying 135).isSome = true := by kernel_rfl
abbrev et135 : ETy := ⟨1, 8⟩
theorem el135 : elemB Try.prog 135 et135 = true := by kernel_rfl
theorem z135 : zeroCells Try.prog 135 = some [.nilFunc] := by kernel_rfl
theorem ty136 : tySz Try.prog 136 = some (false, 1, 8) := by kernel_rfl
theorem us136 : (Try.prog.underlying 136).isSome = true := by kernel_rfl
abbrev et136 : ETy := ⟨1, 8⟩
theorem el136 : elemB Try.prog 136 et136 = true := by kernel_rfl
theorem z136 : zeroCells Try.prog 136 = some [.nilFunc] := by kernel_rfl
theorem ty137 : tySz Try.prog 137 = some (false, 1, 8) := by kernel_rfl
theorem us137 : (Try.prog.underlying 137).isSome = true := by kernel_rfl
abbrev et137 : ETy := ⟨1, 8⟩
theorem el137 : elemB Try.prog 137 et137 = true := by kernel_rfl
theorem z137 : zeroCells Try.prog 137 = some [.nilFunc] := by kernel_rfl
theorem ty138 : tySz Try.prog 138 = some (false, 1, 8) := by kernel_rfl
theorem us138 : (Try.prog.underlying 138).isSome = true := by kernel_rfl
abbrev et138 : ETy := ⟨1, 8⟩
theorem el138 : elemB Try.prog 138 et138 = true := by kernel_rfl
theorem z138 : zeroCells Try.prog 138 = some [.nilFunc] := by kernel_rfl
theorem ty139 : tySz Try.prog 139 = some (false, 1, 0) := by kernel_rfl
theorem us139 : (Try.prog.underlying 139).isSome = true := by kernel_rfl
theorem ty140 : tySz Try.prog 140 = some (false, 1, 8) := by kernel_rfl
theorem us140 : (Try.prog.underlying 140).isSome = true := by kernel_rfl
abbrev et140 : ETy := ⟨1, 8⟩
theorem el140 : elemB Try.prog 140 et140 = true := by kernel_rfl
theorem z140 : zeroCells Try.prog 140 = some [.nilFunc] := by kernel_rfl
theorem ty141 : tySz Try.prog 141 = some (false, 1, 8) := by kernel_rfl
theorem us141 : (Try.prog.underlying 141).isSome = true := by kernel_rfl
abbrev et141 : ETy := ⟨1, 8⟩
theorem el141 : elemB Try.prog 141 et141 = true := by kernel_rfl
theorem z141 : zeroCells Try.prog 141 = some [.nilFunc] := by kernel_rfl
theorem ty142 : tySz Try.prog 142 = some (false, 1, 8) := by kernel_rfl
theorem us142 : (Try.prog.underlying 142).isSome = true := by kernel_rfl
abbrev et142 : ETy := ⟨1, 8⟩
theorem el142 : elemB Try.prog 142 et142 = true := by kernel_rfl
theorem z142 : zeroCells Try.prog 142 = some [.nilFunc] := by kernel_rfl
theorem ty143 : tySz Try.prog 143 = some (false, 1, 8) := by kernel_rfl
theorem us143 : (Try.prog.underlying 143).isSome = true := by kernel_rfl
abbrev et143 : ETy := ⟨1, 8⟩
theorem el143 : elemB Try.prog 143 et143 = true := by kernel_rfl
theorem z143 : zeroCells Try.prog 143 = some [.nilFunc] := by kernel_rfl
theorem ty144 : tySz Try.prog 144 = some (false, 1, 8) := by kernel_rfl
theorem us144 : (Try.prog.underlying 144).isSome = true := by kernel_rfl
abbrev et144 : ETy := ⟨1, 8⟩
theorem el144 : elemB Try.prog 144 et144 = true := by kernel_rfl
theorem z144 : zeroCells Try.prog 144 = some [.nilFunc] := by kernel_rfl
theorem ty145 : tySz Try.prog 145 = some (false, 1, 8) := by kernel_rfl
theorem us145 : (Try.prog.underlying 145).isSome = true := by kernel_rfl
abbrev et145 : ETy := ⟨1, 8⟩
theorem el145 : elemB Try.prog 145 et145 = true := by kernel_rfl
theorem z145 : zeroCells Try.prog 145 = some [.nilFunc] := by kernel_rfl
theorem ty146 : tySz Try.prog 146 = some (false, 1, 8) := by kernel_rfl
theorem us146 : (Try.prog.underlying 146).isSome = true := by kernel_rfl
abbrev et146 : ETy := ⟨1, 8⟩
theorem el146 : elemB Try.prog 146 et146 = true := by kernel_rfl
theorem z146 : zeroCells Try.prog 146 = some [.nilFunc] := by kernel_rfl
theorem ty147 : tySz Try.prog 147 = some (false, 1, 8) := by kernel_rfl
theorem us147 : (Try.prog.underlying 147).isSome = true := by kernel_rfl
abbrev et147 : ETy := ⟨1, 8⟩
theorem el147 : elemB Try.prog 147 et147 = true := by kernel_rfl
theorem z147 : zeroCells Try.prog 147 = some [.nilFunc] := by kernel_rfl
theorem ty148 : tySz Try.prog 148 = some (false, 1, 8) := by kernel_rfl
theorem us148 : (Try.prog.underlying 148).isSome = true := by kernel_rfl
abbrev et148 : ETy := ⟨1, 8⟩
theorem el148 : elemB Try.prog 148 et148 = true := by kernel_rfl
theorem z148 : zeroCells Try.prog 148 = some [.nilFunc] := by kernel_rfl
theorem ty149 : tySz Try.prog 149 = some (false, 1, 0) := by kernel_rfl
theorem us149 : (Try.prog.underlying 149).isSome = true := by kernel_rfl
theorem ty150 : tySz Try.prog 150 = some (false, 1, 8) := by kernel_rfl
theorem us150 : (Try.prog.underlying 150).isSome = true := by kernel_rfl
abbrev et150 : ETy := ⟨1, 8⟩
theorem el150 : elemB Try.prog 150 et150 = true := by kernel_rfl
theorem z150 : zeroCells Try.prog 150 = some [.nilFunc] := by kernel_rfl
theorem ty151 : tySz Try.prog 151 = some (false, 1, 8) := by kernel_rfl
theorem us151 : (Try.prog.underlying 151).isSome = true := by kernel_rfl
abbrev et151 : ETy := ⟨1, 8⟩
theorem el151 : elemB Try.prog 151 et151 = true := by kernel_rfl
theorem z151 : zeroCells Try.prog 151 = some [.nilFunc] := by kernel_rfl
theorem ty152 : tySz Try.prog 152 = some (false, 1, 8) := by kernel_rfl
theorem us152 : (Try.prog.underlying 152).isSome = true := by kernel_rfl
abbrev et152 : ETy := ⟨1, 8⟩
theorem el152 : elemB Try.prog 152 et152 = true := by kernel_rfl
theorem z152 : zeroCells Try.prog 152 = some [.nilFunc] := by kernel_rfl
theorem ty153 : tySz Try.prog 153 = some (false, 1, 8) := by kernel_rfl
theorem us153 : (Try.prog.underlying 153).isSome = true := by kernel_rfl
abbrev et153 : ETy := ⟨1, 8⟩
theorem el153 : elemB Try.prog 153 et153 = true := by kernel_rfl
theorem z153 : zeroCells Try.prog 153 = some [.nilFunc] := by kernel_rfl
theorem ty154 : tySz Try.prog 154 = some (false, 1, 8) := by kernel_rfl
theorem us154 : (Try.prog.underlying 154).isSome = true := by kernel_rfl
abbrev et154 : ETy := ⟨1, 8⟩
theorem el154 : elemB Try.prog 154 et154 = true := by kernel_rfl
theorem z154 : zeroCells Try.prog 154 = some [.nilFunc] := by kernel_rfl
theorem ty155 : tySz Try.prog 155 = some (false, 1, 8) := by kernel_rfl
theorem us155 : (Try.prog.underlying 155).isSome = true := by kernel_rfl
abbrev et155 : ETy := ⟨1, 8⟩
theorem el155 : elemB Try.prog 155 et155 = true := by kernel_rfl
theorem z155 : zeroCells Try.prog 155 = some [.pointer none] := by kernel_rfl
theorem ty156 : tySz Try.prog 156 = some (false, 1, 8) := by kernel_rfl
theorem us156 : (Try.prog.underlying 156).isSome = true := by kernel_rfl
abbrev et156 : ETy := ⟨1, 8⟩
theorem el156 : elemB Try.prog 156 et156 = true := by kernel_rfl
theorem z156 : zeroCells Try.prog 156 = some [.nilFunc] := by kernel_rfl
theorem ty157 : tySz Try.prog 157 = some (false, 1, 8) := by kernel_rfl
theorem us157 : (Try.prog.underlying 157).isSome = true := by kernel_rfl
abbrev et157 : ETy := ⟨1, 8⟩
theorem el157 : elemB Try.prog 157 et157 = true := by kernel_rfl
theorem z157 : zeroCells Try.prog 157 = some [.nilFunc] := by kernel_rfl
theorem ty158 : tySz Try.prog 158 = some (false, 1, 8) := by kernel_rfl
theorem us158 : (Try.prog.underlying 158).isSome = true := by kernel_rfl
abbrev et158 : ETy := ⟨1, 8⟩
theorem el158 : elemB Try.prog 158 et158 = true := by kernel_rfl
theorem z158 : zeroCells Try.prog 158 = some [.nilFunc] := by kernel_rfl
theorem ty159 : tySz Try.prog 159 = some (false, 1, 8) := by kernel_rfl
theorem us159 : (Try.prog.underlying 159).isSome = true := by kernel_rfl
abbrev et159 : ETy := ⟨1, 8⟩
theorem el159 : elemB Try.prog 159 et159 = true := by kernel_rfl
theorem z159 : zeroCells Try.prog 159 = some [.nilFunc] := by kernel_rfl
theorem ty160 : tySz Try.prog 160 = some (false, 1, 8) := by kernel_rfl
theorem us160 : (Try.prog.underlying 160).isSome = true := by kernel_rfl
abbrev et160 : ETy := ⟨1, 8⟩
theorem el160 : elemB Try.prog 160 et160 = true := by kernel_rfl
theorem z160 : zeroCells Try.prog 160 = some [.nilFunc] := by kernel_rfl
theorem ty161 : tySz Try.prog 161 = some (false, 1, 8) := by kernel_rfl
theorem us161 : (Try.prog.underlying 161).isSome = true := by kernel_rfl
abbrev et161 : ETy := ⟨1, 8⟩
theorem el161 : elemB Try.prog 161 et161 = true := by kernel_rfl
theorem z161 : zeroCells Try.prog 161 = some [.nilFunc] := by kernel_rfl
theorem ty162 : tySz Try.prog 162 = some (false, 1, 8) := by kernel_rfl
theorem us162 : (Try.prog.underlying 162).isSome = true := by kernel_rfl
abbrev et162 : ETy := ⟨1, 8⟩
theorem el162 : elemB Try.prog 162 et162 = true := by kernel_rfl
theorem z162 : zeroCells Try.prog 162 = some [.nilFunc] := by kernel_rfl
theorem ty163 : tySz Try.prog 163 = some (false, 1, 8) := by kernel_rfl
theorem us163 : (Try.prog.underlying 163).isSome = true := by kernel_rfl
abbrev et163 : ETy := ⟨1, 8⟩
theorem el163 : elemB Try.prog 163 et163 = true := by kernel_rfl
theorem z163 : zeroCells Try.prog 163 = some [.nilFunc] := by kernel_rfl
theorem ty164 : tySz Try.prog 164 = some (false, 1, 8) := by kernel_rfl
theorem us164 : (Try.prog.underlying 164).isSome = true := by kernel_rfl
abbrev et164 : ETy := ⟨1, 8⟩
theorem el164 : elemB Try.prog 164 et164 = true := by kernel_rfl
theorem z164 : zeroCells Try.prog 164 = some [.nilFunc] := by kernel_rfl
theorem ty165 : tySz Try.prog 165 = some (false, 1, 8) := by kernel_rfl
theorem us165 : (Try.prog.underlying 165).isSome = true := by kernel_rfl
abbrev et165 : ETy := ⟨1, 8⟩
theorem el165 : elemB Try.prog 165 et165 = true := by kernel_rfl
theorem z165 : zeroCells Try.prog 165 = some [.nilFunc] := by kernel_rfl
theorem ty166 : tySz Try.prog 166 = some (false, 1, 8) := by kernel_rfl
theorem us166 : (Try.prog.underlying 166).isSome = true := by kernel_rfl
abbrev et166 : ETy := ⟨1, 8⟩
theorem el166 : elemB Try.prog 166 et166 = true := by kernel_rfl
theorem z166 : zeroCells Try.prog 166 = some [.nilFunc] := by kernel_rfl
theorem ty167 : tySz Try.prog 167 = some (false, 1, 8) := by kernel_rfl
theorem us167 : (Try.prog.underlying 167).isSome = true := by kernel_rfl
abbrev et167 : ETy := ⟨1, 8⟩
theorem el167 : elemB Try.prog 167 et167 = true := by kernel_rfl
theorem z167 : zeroCells Try.prog 167 = some [.nilFunc] := by kernel_rfl
theorem ty168 : tySz Try.prog 168 = some (false, 1, 8) := by kernel_rfl
theorem us168 : (Try.prog.underlying 168).isSome = true := by kernel_rfl
abbrev et168 : ETy := ⟨1, 8⟩
theorem el168 : elemB Try.prog 168 et168 = true := by kernel_rfl
theorem z168 : zeroCells Try.prog 168 = some [.nilFunc] := by kernel_rfl
theorem ty169 : tySz Try.prog 169 = some (false, 1, 8) := by kernel_rfl
theorem us169 : (Try.prog.underlying 169).isSome = true := by kernel_rfl
abbrev et169 : ETy := ⟨1, 8⟩
theorem el169 : elemB Try.prog 169 et169 = true := by kernel_rfl
theorem z169 : zeroCells Try.prog 169 = some [.nilFunc] := by kernel_rfl
theorem ty170 : tySz Try.prog 170 = some (false, 1, 8) := by kernel_rfl
theorem us170 : (Try.prog.underlying 170).isSome = true := by kernel_rfl
theorem iu170 : Try.prog.underlying 170 = some (.int .u64) := by kernel_rfl
abbrev et170 : ETy := ⟨1, 8⟩
theorem el170 : elemB Try.prog 170 et170 = true := by kernel_rfl
theorem z170 : zeroCells Try.prog 170 = some [.int .u64 0] := by kernel_rfl
theorem ty171 : tySz Try.prog 171 = some (false, 1, 8) := by kernel_rfl
theorem us171 : (Try.prog.underlying 171).isSome = true := by kernel_rfl
abbrev et171 : ETy := ⟨1, 8⟩
theorem el171 : elemB Try.prog 171 et171 = true := by kernel_rfl
theorem z171 : zeroCells Try.prog 171 = some [.nilFunc] := by kernel_rfl
theorem ty172 : tySz Try.prog 172 = some (false, 1, 8) := by kernel_rfl
theorem us172 : (Try.prog.underlying 172).isSome = true := by kernel_rfl
abbrev et172 : ETy := ⟨1, 8⟩
theorem el172 : elemB Try.prog 172 et172 = true := by kernel_rfl
theorem z172 : zeroCells Try.prog 172 = some [.nilFunc] := by kernel_rfl
theorem ty173 : tySz Try.prog 173 = some (false, 1, 8) := by kernel_rfl
theorem us173 : (Try.prog.underlying 173).isSome = true := by kernel_rfl
abbrev et173 : ETy := ⟨1, 8⟩
theorem el173 : elemB Try.prog 173 et173 = true := by kernel_rfl
theorem z173 : zeroCells Try.prog 173 = some [.nilFunc] := by kernel_rfl
theorem ty174 : tySz Try.prog 174 = some (false, 1, 8) := by kernel_rfl
theorem us174 : (Try.prog.underlying 174).isSome = true := by kernel_rfl
abbrev et174 : ETy := ⟨1, 8⟩
theorem el174 : elemB Try.prog 174 et174 = true := by kernel_rfl
theorem z174 : zeroCells Try.prog 174 = some [.nilFunc] := by kernel_rfl
theorem ty175 : tySz Try.prog 175 = some (false, 1, 8) := by kernel_rfl
theorem us175 : (Try.prog.underlying 175).isSome = true := by kernel_rfl
abbrev et175 : ETy := ⟨1, 8⟩
theorem el175 : elemB Try.prog 175 et175 = true := by kernel_rfl
theorem z175 : zeroCells Try.prog 175 = some [.nilFunc] := by kernel_rfl
theorem ty176 : tySz Try.prog 176 = some (false, 1, 8) := by kernel_rfl
theorem us176 : (Try.prog.underlying 176).isSome = true := by kernel_rfl
theorem fl176 : Try.prog.underlying 176 = some (.float .f64) := by kernel_rfl
abbrev et176 : ETy := ⟨1, 8⟩
theorem el176 : elemB Try.prog 176 et176 = true := by kernel_rfl
theorem z176 : zeroCells Try.prog 176 = some [.float .f64 0] := by kernel_rfl
theorem ty177 : tySz Try.prog 177 = some (false, 1, 8) := by kernel_rfl
theorem us177 : (Try.prog.underlying 177).isSome = true := by kernel_rfl
abbrev et177 : ETy := ⟨1, 8⟩
theorem el177 : elemB Try.prog 177 et177 = true := by kernel_rfl
theorem z177 : zeroCells Try.prog 177 = some [.nilFunc] := by kernel_rfl
theorem ty178 : tySz Try.prog 178 = some (false, 1, 8) := by kernel_rfl
theorem us178 : (Try.prog.underlying 178).isSome = true := by kernel_rfl
abbrev et178 : ETy := ⟨1, 8⟩
theorem el178 : elemB Try.prog 178 et178 = true := by kernel_rfl
theorem z178 : zeroCells Try.prog 178 = some [.nilFunc] := by kernel_rfl
theorem ty179 : tySz Try.prog 179 = some (false, 1, 8) := by kernel_rfl
theorem us179 : (Try.prog.underlying 179).isSome = true := by kernel_rfl
abbrev et179 : ETy := ⟨1, 8⟩
theorem el179 : elemB Try.prog 179 et179 = true := by kernel_rfl
theorem z179 : zeroCells Try.prog 179 = some [.nilFunc] := by kernel_rfl
theorem ty180 : tySz Try.prog 180 = some (false, 1, 8) := by kernel_rfl
theorem us180 : (Try.prog.underlying 180).isSome = true := by kernel_rfl
abbrev et180 : ETy := ⟨1, 8⟩
theorem el180 : elemB Try.prog 180 et180 = true := by kernel_rfl
theorem z180 : zeroCells Try.prog 180 = some [.nilFunc] := by kernel_rfl
theorem ty181 : tySz Try.prog 181 = some (false, 1, 8) := by kernel_rfl
theorem us181 : (Try.prog.underlying 181).isSome = true := by kernel_rfl
abbrev et181 : ETy := ⟨1, 8⟩
theorem el181 : elemB Try.prog 181 et181 = true := by kernel_rfl
theorem z181 : zeroCells Try.prog 181 = some [.nilFunc] := by kernel_rfl
theorem ty182 : tySz Try.prog 182 = some (false, 1, 8) := by kernel_rfl
theorem us182 : (Try.prog.underlying 182).isSome = true := by kernel_rfl
abbrev et182 : ETy := ⟨1, 8⟩
theorem el182 : elemB Try.prog 182 et182 = true := by kernel_rfl
theorem z182 : zeroCells Try.prog 182 = some [.nilFunc] := by kernel_rfl
theorem ty183 : tySz Try.prog 183 = some (false, 1, 8) := by kernel_rfl
theorem us183 : (Try.prog.underlying 183).isSome = true := by kernel_rfl
abbrev et183 : ETy := ⟨1, 8⟩
theorem el183 : elemB Try.prog 183 et183 = true := by kernel_rfl
theorem z183 : zeroCells Try.prog 183 = some [.nilFunc] := by kernel_rfl
theorem ty184 : tySz Try.prog 184 = some (true, 4, 40) := by kernel_rfl
theorem us184 : (Try.prog.underlying 184).isSome = true := by kernel_rfl
theorem pl184 : placesOf Try.prog 184 = some [(0, 1), (1, 1), (2, 1), (3, 1)] := by kernel_rfl
theorem fo184_0 : fieldOff Try.prog 184 0 = some 0 := by kernel_rfl
theorem fo184_1 : fieldOff Try.prog 184 1 = some 1 := by kernel_rfl
theorem fo184_2 : fieldOff Try.prog 184 2 = some 2 := by kernel_rfl
theorem fo184_3 : fieldOff Try.prog 184 3 = some 3 := by kernel_rfl
abbrev et184 : ETy := ⟨4, 40⟩
theorem el184 : elemB Try.prog 184 et184 = true := by kernel_rfl
theorem z184 : zeroCells Try.prog 184 = some [.pointer none, .pointer none, .pointer none, str []] := by kernel_rfl
theorem ty185 : tySz Try.prog 185 = some (true, 4, 40) := by kernel_rfl
theorem us185 : (Try.prog.underlying 185).isSome = true := by kernel_rfl
theorem pl185 : placesOf Try.prog 185 = some [(0, 1), (1, 1), (2, 1), (3, 1)] := by kernel_rfl
theorem fo185_0 : fieldOff Try.prog 185 0 = some 0 := by kernel_rfl
theorem fo185_1 : fieldOff Try.prog 185 1 = some 1 := by kernel_rfl
theorem fo185_2 : fieldOff Try.prog 185 2 = some 2 := by kernel_rfl
theorem fo185_3 : fieldOff Try.prog 185 3 = some 3 := by kernel_rfl
abbrev et185 : ETy := ⟨4, 40⟩
theorem el185 : elemB Try.prog 185 et185 = true := by kernel_rfl
theorem z185 : zeroCells Try.prog 185 = some [.pointer none, .pointer none, .pointer none, str []] := by kernel_rfl
theorem ty186 : tySz Try.prog 186 = some (true, 0, 0) := by kernel_rfl
theorem us186 : (Try.prog.underlying 186).isSome = true := by kernel_rfl
abbrev et186 : ETy := ⟨0, 0⟩
theorem el186 : elemB Try.prog 186 et186 = true := by kernel_rfl
theorem z186 : zeroCells Try.prog 186 = some [] := by kernel_rfl
theorem ty187 : tySz Try.prog 187 = some (true, 0, 0) := by kernel_rfl
theorem us187 : (Try.prog.underlying 187).isSome = true := by kernel_rfl
theorem pl187 : placesOf Try.prog 187 = some [(0, 0)] := by kernel_rfl
abbrev et187 : ETy := ⟨0, 0⟩
theorem el187 : elemB Try.prog 187 et187 = true := by kernel_rfl
theorem z187 : zeroCells Try.prog 187 = some [] := by kernel_rfl
theorem ty188 : tySz Try.prog 188 = some (true, 0, 0) := by kernel_rfl
theorem us188 : (Try.prog.underlying 188).isSome = true := by kernel_rfl
theorem pl188 : placesOf Try.prog 188 = some [(0, 0)] := by kernel_rfl
abbrev et188 : ETy := ⟨0, 0⟩
theorem el188 : elemB Try.prog 188 et188 = true := by kernel_rfl
theorem z188 : zeroCells Try.prog 188 = some [] := by kernel_rfl
theorem ty189 : tySz Try.prog 189 = some (false, 1, 8) := by kernel_rfl
theorem us189 : (Try.prog.underlying 189).isSome = true := by kernel_rfl
abbrev et189 : ETy := ⟨1, 8⟩
theorem el189 : elemB Try.prog 189 et189 = true := by kernel_rfl
theorem z189 : zeroCells Try.prog 189 = some [.nilFunc] := by kernel_rfl
theorem ty190 : tySz Try.prog 190 = some (false, 1, 4) := by kernel_rfl
theorem us190 : (Try.prog.underlying 190).isSome = true := by kernel_rfl
theorem iu190 : Try.prog.underlying 190 = some (.int .u32) := by kernel_rfl
abbrev et190 : ETy := ⟨1, 4⟩
theorem el190 : elemB Try.prog 190 et190 = true := by kernel_rfl
theorem z190 : zeroCells Try.prog 190 = some [.int .u32 0] := by kernel_rfl
theorem ty191 : tySz Try.prog 191 = some (false, 1, 1) := by kernel_rfl
theorem us191 : (Try.prog.underlying 191).isSome = true := by kernel_rfl
theorem iu191 : Try.prog.underlying 191 = some (.int .u8) := by kernel_rfl
abbrev et191 : ETy := ⟨1, 1⟩
theorem el191 : elemB Try.prog 191 et191 = true := by kernel_rfl
theorem z191 : zeroCells Try.prog 191 = some [.int .u8 0] := by kernel_rfl
theorem ty192 : tySz Try.prog 192 = some (false, 1, 1) := by kernel_rfl
theorem us192 : (Try.prog.underlying 192).isSome = true := by kernel_rfl
theorem iu192 : Try.prog.underlying 192 = some (.int .u8) := by kernel_rfl
abbrev et192 : ETy := ⟨1, 1⟩
theorem el192 : elemB Try.prog 192 et192 = true := by kernel_rfl
theorem z192 : zeroCells Try.prog 192 = some [.int .u8 0] := by kernel_rfl
theorem ty193 : tySz Try.prog 193 = some (false, 1, 8) := by kernel_rfl
theorem us193 : (Try.prog.underlying 193).isSome = true := by kernel_rfl
abbrev et193 : ETy := ⟨1, 8⟩
theorem el193 : elemB Try.prog 193 et193 = true := by kernel_rfl
theorem z193 : zeroCells Try.prog 193 = some [.nilFunc] := by kernel_rfl
theorem ty194 : tySz Try.prog 194 = some (false, 1, 8) := by kernel_rfl
theorem us194 : (Try.prog.underlying 194).isSome = true := by kernel_rfl
abbrev et194 : ETy := ⟨1, 8⟩
theorem el194 : elemB Try.prog 194 et194 = true := by kernel_rfl
theorem z194 : zeroCells Try.prog 194 = some [.pointer none] := by kernel_rfl
theorem ty195 : tySz Try.prog 195 = some (false, 1, 4) := by kernel_rfl
theorem us195 : (Try.prog.underlying 195).isSome = true := by kernel_rfl
theorem iu195 : Try.prog.underlying 195 = some (.int .i32) := by kernel_rfl
abbrev et195 : ETy := ⟨1, 4⟩
theorem el195 : elemB Try.prog 195 et195 = true := by kernel_rfl
theorem z195 : zeroCells Try.prog 195 = some [.int .i32 0] := by kernel_rfl
theorem ty196 : tySz Try.prog 196 = some (false, 1, 4) := by kernel_rfl
theorem us196 : (Try.prog.underlying 196).isSome = true := by kernel_rfl
theorem iu196 : Try.prog.underlying 196 = some (.int .i32) := by kernel_rfl
abbrev et196 : ETy := ⟨1, 4⟩
theorem el196 : elemB Try.prog 196 et196 = true := by kernel_rfl
theorem z196 : zeroCells Try.prog 196 = some [.int .i32 0] := by kernel_rfl
theorem ty197 : tySz Try.prog 197 = some (true, 11, 48) := by kernel_rfl
theorem us197 : (Try.prog.underlying 197).isSome = true := by kernel_rfl
theorem pl197 : placesOf Try.prog 197 = some [(0, 1), (1, 1), (2, 1), (3, 1), (4, 1), (5, 1), (6, 1), (7, 1), (8, 1), (9, 1), (10, 1)] := by kernel_rfl
theorem fo197_0 : fieldOff Try.prog 197 0 = some 0 := by kernel_rfl
theorem fo197_1 : fieldOff Try.prog 197 1 = some 1 := by kernel_rfl
theorem fo197_2 : fieldOff Try.prog 197 2 = some 2 := by kernel_rfl
theorem fo197_3 : fieldOff Try.prog 197 3 = some 3 := by kernel_rfl
theorem fo197_4 : fieldOff Try.prog 197 4 = some 4 := by kernel_rfl
theorem fo197_5 : fieldOff Try.prog 197 5 = some 5 := by kernel_rfl
theorem fo197_6 : fieldOff Try.prog 197 6 = some 6 := by kernel_rfl
theorem fo197_7 : fieldOff Try.prog 197 7 = some 7 := by kernel_rfl
theorem fo197_8 : fieldOff Try.prog 197 8 = some 8 := by kernel_rfl
theorem fo197_9 : fieldOff Try.prog 197 9 = some 9 := by kernel_rfl
theorem fo197_10 : fieldOff Try.prog 197 10 = some 10 := by kernel_rfl
abbrev et197 : ETy := ⟨11, 48⟩
theorem el197 : elemB Try.prog 197 et197 = true := by kernel_rfl
theorem z197 : zeroCells Try.prog 197 = some [.int .u64 0, .int .u64 0, .int .u32 0, .int .u8 0, .int .u8 0, .int .u8 0, .int .u8 0, .nilFunc, .pointer none, .int .i32 0, .int .i32 0] := by kernel_rfl
theorem ty198 : tySz Try.prog 198 = some (true, 11, 48) := by kernel_rfl
theorem us198 : (Try.prog.underlying 198).isSome = true := by kernel_rfl
theorem pl198 : placesOf Try.prog 198 = some [(0, 1), (1, 1), (2, 1), (3, 1), (4, 1), (5, 1), (6, 1), (7, 1), (8, 1), (9, 1), (10, 1)] := by kernel_rfl
theorem fo198_0 : fieldOff Try.prog 198 0 = some 0 := by kernel_rfl
theorem fo198_1 : fieldOff Try.prog 198 1 = some 1 := by kernel_rfl
theorem fo198_2 : fieldOff Try.prog 198 2 = some 2 := by kernel_rfl
theorem fo198_3 : fieldOff Try.prog 198 3 = some 3 := by kernel_rfl
theorem fo198_4 : fieldOff Try.prog 198 4 = some 4 := by kernel_rfl
theorem fo198_5 : fieldOff Try.prog 198 5 = some 5 := by kernel_rfl
theorem fo198_6 : fieldOff Try.prog 198 6 = some 6 := by kernel_rfl
theorem fo198_7 : fieldOff Try.prog 198 7 = some 7 := by kernel_rfl
theorem fo198_8 : fieldOff Try.prog 198 8 = some 8 := by kernel_rfl
theorem fo198_9 : fieldOff Try.prog 198 9 = some 9 := by kernel_rfl
theorem fo198_10 : fieldOff Try.prog 198 10 = some 10 := by kernel_rfl
abbrev et198 : ETy := ⟨11, 48⟩
theorem el198 : elemB Try.prog 198 et198 = true := by kernel_rfl
theorem z198 : zeroCells Try.prog 198 = some [.int .u64 0, .int .u64 0, .int .u32 0, .int .u8 0, .int .u8 0, .int .u8 0, .int .u8 0, .nilFunc, .pointer none, .int .i32 0, .int .i32 0] := by kernel_rfl
theorem ty199 : tySz Try.prog 199 = some (false, 1, 8) := by kernel_rfl
theorem us199 : (Try.prog.underlying 199).isSome = true := by kernel_rfl
theorem mixed : Try.prog.follows .mixedOrders = true := by kernel_rfl
theorem gofn2 : goFn Try.prog 2 = true := by kernel_rfl
theorem gofn3 : goFn Try.prog 3 = true := by kernel_rfl
theorem gofn4 : goFn Try.prog 4 = true := by kernel_rfl
theorem gofn5 : goFn Try.prog 5 = true := by kernel_rfl
theorem gofn6 : goFn Try.prog 6 = true := by kernel_rfl
theorem gofn7 : goFn Try.prog 7 = true := by kernel_rfl
theorem gofn8 : goFn Try.prog 8 = true := by kernel_rfl
theorem gofn9 : goFn Try.prog 9 = true := by kernel_rfl
theorem gofn10 : goFn Try.prog 10 = true := by kernel_rfl
theorem gofn11 : goFn Try.prog 11 = true := by kernel_rfl
theorem gofn12 : goFn Try.prog 12 = true := by kernel_rfl
theorem gofn13 : goFn Try.prog 13 = true := by kernel_rfl
theorem gofn14 : goFn Try.prog 14 = true := by kernel_rfl
theorem gofn15 : goFn Try.prog 15 = true := by kernel_rfl
theorem gofn16 : goFn Try.prog 16 = true := by kernel_rfl
theorem gofn17 : goFn Try.prog 17 = true := by kernel_rfl
theorem gofn18 : goFn Try.prog 18 = true := by kernel_rfl
theorem gofn19 : goFn Try.prog 19 = true := by kernel_rfl
theorem gofn20 : goFn Try.prog 20 = true := by kernel_rfl
theorem gofn21 : goFn Try.prog 21 = true := by kernel_rfl
theorem gofn22 : goFn Try.prog 22 = true := by kernel_rfl
theorem gofn23 : goFn Try.prog 23 = true := by kernel_rfl
theorem gofn24 : goFn Try.prog 24 = true := by kernel_rfl
theorem gofn25 : goFn Try.prog 25 = true := by kernel_rfl
theorem gofn26 : goFn Try.prog 26 = true := by kernel_rfl
theorem gofn27 : goFn Try.prog 27 = true := by kernel_rfl
theorem gofn28 : goFn Try.prog 28 = true := by kernel_rfl
theorem gofn29 : goFn Try.prog 29 = true := by kernel_rfl
theorem gofn30 : goFn Try.prog 30 = true := by kernel_rfl
theorem gofn31 : goFn Try.prog 31 = true := by kernel_rfl
theorem gofn32 : goFn Try.prog 32 = true := by kernel_rfl
theorem gofn33 : goFn Try.prog 33 = true := by kernel_rfl
theorem gofn34 : goFn Try.prog 34 = true := by kernel_rfl
theorem gofn35 : goFn Try.prog 35 = true := by kernel_rfl
theorem gofn36 : goFn Try.prog 36 = true := by kernel_rfl
theorem gofn37 : goFn Try.prog 37 = true := by kernel_rfl
theorem gofn38 : goFn Try.prog 38 = true := by kernel_rfl
theorem gofn39 : goFn Try.prog 39 = true := by kernel_rfl
theorem gofn40 : goFn Try.prog 40 = true := by kernel_rfl
theorem gofn41 : goFn Try.prog 41 = true := by kernel_rfl
theorem gofn42 : goFn Try.prog 42 = true := by kernel_rfl
theorem gofn43 : goFn Try.prog 43 = true := by kernel_rfl
theorem gofn44 : goFn Try.prog 44 = true := by kernel_rfl
theorem gofn45 : goFn Try.prog 45 = true := by kernel_rfl
theorem gofn46 : goFn Try.prog 46 = true := by kernel_rfl
theorem gofn47 : goFn Try.prog 47 = true := by kernel_rfl
theorem gofn48 : goFn Try.prog 48 = true := by kernel_rfl
theorem gofn49 : goFn Try.prog 49 = true := by kernel_rfl
theorem gofn50 : goFn Try.prog 50 = true := by kernel_rfl
theorem gofn51 : goFn Try.prog 51 = true := by kernel_rfl
theorem gofn52 : goFn Try.prog 52 = true := by kernel_rfl
theorem gofn53 : goFn Try.prog 53 = true := by kernel_rfl
theorem gofn54 : goFn Try.prog 54 = true := by kernel_rfl
theorem gofn55 : goFn Try.prog 55 = true := by kernel_rfl
theorem gofn56 : goFn Try.prog 56 = true := by kernel_rfl
theorem gofn57 : goFn Try.prog 57 = true := by kernel_rfl
theorem gofn58 : goFn Try.prog 58 = true := by kernel_rfl
theorem gofn59 : goFn Try.prog 59 = true := by kernel_rfl
theorem gofn60 : goFn Try.prog 60 = true := by kernel_rfl
theorem gofn61 : goFn Try.prog 61 = true := by kernel_rfl
theorem gofn62 : goFn Try.prog 62 = true := by kernel_rfl
theorem gofn63 : goFn Try.prog 63 = true := by kernel_rfl
theorem gofn64 : goFn Try.prog 64 = true := by kernel_rfl
theorem gofn65 : goFn Try.prog 65 = true := by kernel_rfl
theorem gofn66 : goFn Try.prog 66 = true := by kernel_rfl
theorem gofn67 : goFn Try.prog 67 = true := by kernel_rfl
theorem gofn68 : goFn Try.prog 68 = true := by kernel_rfl
theorem gofn69 : goFn Try.prog 69 = true := by kernel_rfl
theorem gofn70 : goFn Try.prog 70 = true := by kernel_rfl
theorem gofn71 : goFn Try.prog 71 = true := by kernel_rfl
theorem gofn72 : goFn Try.prog 72 = true := by kernel_rfl
theorem gofn73 : goFn Try.prog 73 = true := by kernel_rfl
theorem gofn74 : goFn Try.prog 74 = true := by kernel_rfl
theorem gofn75 : goFn Try.prog 75 = true := by kernel_rfl
theorem gofn76 : goFn Try.prog 76 = true := by kernel_rfl
theorem gofn77 : goFn Try.prog 77 = true := by kernel_rfl
theorem gofn78 : goFn Try.prog 78 = true := by kernel_rfl
theorem gofn79 : goFn Try.prog 79 = true := by kernel_rfl
theorem gofn80 : goFn Try.prog 80 = true := by kernel_rfl
theorem gofn81 : goFn Try.prog 81 = true := by kernel_rfl
theorem gofn82 : goFn Try.prog 82 = true := by kernel_rfl
theorem gofn83 : goFn Try.prog 83 = true := by kernel_rfl
theorem gofn84 : goFn Try.prog 84 = true := by kernel_rfl
theorem gofn85 : goFn Try.prog 85 = true := by kernel_rfl
theorem gofn86 : goFn Try.prog 86 = true := by kernel_rfl
theorem gofn87 : goFn Try.prog 87 = true := by kernel_rfl
theorem gofn88 : goFn Try.prog 88 = true := by kernel_rfl
theorem gofn89 : goFn Try.prog 89 = true := by kernel_rfl
theorem gofn90 : goFn Try.prog 90 = true := by kernel_rfl
theorem gofn91 : goFn Try.prog 91 = true := by kernel_rfl
theorem gofn92 : goFn Try.prog 92 = true := by kernel_rfl
theorem gofn93 : goFn Try.prog 93 = true := by kernel_rfl
theorem gofn94 : goFn Try.prog 94 = true := by kernel_rfl
theorem gofn95 : goFn Try.prog 95 = true := by kernel_rfl
theorem gofn96 : goFn Try.prog 96 = true := by kernel_rfl
theorem gofn97 : goFn Try.prog 97 = true := by kernel_rfl
theorem gofn98 : goFn Try.prog 98 = true := by kernel_rfl
theorem gofn99 : goFn Try.prog 99 = true := by kernel_rfl
theorem gofn100 : goFn Try.prog 100 = true := by kernel_rfl
theorem gofn101 : goFn Try.prog 101 = true := by kernel_rfl
theorem gofn102 : goFn Try.prog 102 = true := by kernel_rfl
theorem gofn103 : goFn Try.prog 103 = true := by kernel_rfl
theorem gofn104 : goFn Try.prog 104 = true := by kernel_rfl
theorem gofn105 : goFn Try.prog 105 = true := by kernel_rfl
theorem gofn106 : goFn Try.prog 106 = true := by kernel_rfl
theorem gofn107 : goFn Try.prog 107 = true := by kernel_rfl
theorem gofn108 : goFn Try.prog 108 = true := by kernel_rfl
theorem gofn109 : goFn Try.prog 109 = true := by kernel_rfl
theorem gofn110 : goFn Try.prog 110 = true := by kernel_rfl
theorem gofn111 : goFn Try.prog 111 = true := by kernel_rfl
theorem gofn112 : goFn Try.prog 112 = true := by kernel_rfl
theorem gofn113 : goFn Try.prog 113 = true := by kernel_rfl
theorem gofn114 : goFn Try.prog 114 = true := by kernel_rfl
theorem gofn115 : goFn Try.prog 115 = true := by kernel_rfl
theorem gofn116 : goFn Try.prog 116 = true := by kernel_rfl
theorem gofn117 : goFn Try.prog 117 = true := by kernel_rfl
theorem gofn118 : goFn Try.prog 118 = true := by kernel_rfl
theorem gofn119 : goFn Try.prog 119 = true := by kernel_rfl
theorem gofn120 : goFn Try.prog 120 = true := by kernel_rfl
theorem gofn121 : goFn Try.prog 121 = true := by kernel_rfl
theorem gofn122 : goFn Try.prog 122 = true := by kernel_rfl
theorem gofn123 : goFn Try.prog 123 = true := by kernel_rfl
theorem gofn124 : goFn Try.prog 124 = true := by kernel_rfl
theorem gofn125 : goFn Try.prog 125 = true := by kernel_rfl
theorem gofn126 : goFn Try.prog 126 = true := by kernel_rfl
theorem gofn127 : goFn Try.prog 127 = true := by kernel_rfl
theorem gofn128 : goFn Try.prog 128 = true := by kernel_rfl
theorem gofn129 : goFn Try.prog 129 = true := by kernel_rfl
theorem gofn130 : goFn Try.prog 130 = true := by kernel_rfl
theorem gofn131 : goFn Try.prog 131 = true := by kernel_rfl
theorem gofn132 : goFn Try.prog 132 = true := by kernel_rfl
theorem gofn133 : goFn Try.prog 133 = true := by kernel_rfl
theorem gofn135 : goFn Try.prog 135 = true := by kernel_rfl
theorem gofn137 : goFn Try.prog 137 = true := by kernel_rfl
theorem extFrom (b : Nat) (w : World) : (callFunc 138 #[.int .u64 (b : Int)]).run Try.prog w = .ok (.value (.float .f64 b)) w := by kernel_rfl
theorem gofn139 : goFn Try.prog 139 = true := by kernel_rfl
theorem gofn140 : goFn Try.prog 140 = true := by kernel_rfl
theorem gofn141 : goFn Try.prog 141 = true := by kernel_rfl
theorem gofn142 : goFn Try.prog 142 = true := by kernel_rfl
theorem gofn143 : goFn Try.prog 143 = true := by kernel_rfl
theorem gofn144 : goFn Try.prog 144 = true := by kernel_rfl
theorem gofn145 : goFn Try.prog 145 = true := by kernel_rfl
theorem gofn146 : goFn Try.prog 146 = true := by kernel_rfl
theorem extBits (b : Nat) (w : World) : (callFunc 147 #[.float .f64 b]).run Try.prog w = .ok (.value (.int .u64 b)) w := by kernel_rfl
theorem gofn148 : goFn Try.prog 148 = true := by kernel_rfl
theorem gofn149 : goFn Try.prog 149 = true := by kernel_rfl
end Go.Proofs.Ytkiankpmkglhcaa.J
