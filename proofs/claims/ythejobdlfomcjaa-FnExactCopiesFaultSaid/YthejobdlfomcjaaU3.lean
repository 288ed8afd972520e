/- Part 3 of the proof that the law FnExactCopiesFault answers true at every input: memory as trees, the program walked over them, and what it computes; no condition. -/
import Derived.Test.YthejobdlfomcjaaProg
import Derived.KernelRfl
import Derived.Test.YthejobdlfomcjaaU2
/- What the evaluator of trees asks of the types; each by the kernel. Written by a program of this session. -/
namespace Go.Proofs.Ythejobdlfomcjaa.Ty
open Go Go.Px Go.Proofs

theorem tok2 : tok Try.prog 2 = true := by kernel_rfl
theorem tsz2 : tsz Try.prog 2 = 1 := by kernel_rfl
theorem tagg2 : tagg Try.prog 2 = false := by kernel_rfl
theorem tinfo2 : tinfo Try.prog 2 = some (1, 8) := by kernel_rfl
theorem tzc2 : tzc Try.prog 2 = some [.v (.int .i64 0)] := by kernel_rfl
theorem tzs2 : tzs Try.prog 2 = [0] := by kernel_rfl
theorem tund2 : Try.prog.underlying 2 = some (.int .i64) := by kernel_rfl
theorem tok3 : tok Try.prog 3 = true := by kernel_rfl
theorem tsz3 : tsz Try.prog 3 = 1 := by kernel_rfl
theorem tagg3 : tagg Try.prog 3 = false := by kernel_rfl
theorem tinfo3 : tinfo Try.prog 3 = some (1, 8) := by kernel_rfl
theorem tzc3 : tzc Try.prog 3 = some [.v (.int .i64 0)] := by kernel_rfl
theorem tzs3 : tzs Try.prog 3 = [0] := by kernel_rfl
theorem tund3 : Try.prog.underlying 3 = some (.int .i64) := by kernel_rfl
theorem tok4 : tok Try.prog 4 = true := by kernel_rfl
theorem tsz4 : tsz Try.prog 4 = 1 := by kernel_rfl
theorem tagg4 : tagg Try.prog 4 = false := by kernel_rfl
theorem tinfo4 : tinfo Try.prog 4 = some (1, 1) := by kernel_rfl
theorem tzc4 : tzc Try.prog 4 = some [.v (.bool false)] := by kernel_rfl
theorem tzs4 : tzs Try.prog 4 = [0] := by kernel_rfl
theorem tok5 : tok Try.prog 5 = true := by kernel_rfl
theorem tsz5 : tsz Try.prog 5 = 1 := by kernel_rfl
theorem tagg5 : tagg Try.prog 5 = false := by kernel_rfl
theorem tinfo5 : tinfo Try.prog 5 = some (1, 1) := by kernel_rfl
theorem tzc5 : tzc Try.prog 5 = some [.v (.int .u8 0)] := by kernel_rfl
theorem tzs5 : tzs Try.prog 5 = [0] := by kernel_rfl
theorem tund5 : Try.prog.underlying 5 = some (.int .u8) := by kernel_rfl
theorem tok6 : tok Try.prog 6 = true := by kernel_rfl
theorem tsz6 : tsz Try.prog 6 = 1 := by kernel_rfl
theorem tagg6 : tagg Try.prog 6 = false := by kernel_rfl
theorem tinfo6 : tinfo Try.prog 6 = some (1, 1) := by kernel_rfl
theorem tzc6 : tzc Try.prog 6 = some [.v (.int .u8 0)] := by kernel_rfl
theorem tzs6 : tzs Try.prog 6 = [0] := by kernel_rfl
theorem tund6 : Try.prog.underlying 6 = some (.int .u8) := by kernel_rfl
theorem tok22 : tok Try.prog 22 = true := by kernel_rfl
theorem tsz22 : tsz Try.prog 22 = 1 := by kernel_rfl
theorem tagg22 : tagg Try.prog 22 = false := by kernel_rfl
theorem tinfo22 : tinfo Try.prog 22 = some (1, 24) := by kernel_rfl
theorem tzc22 : tzc Try.prog 22 = some [.own 2 []] := by kernel_rfl
theorem tzs22 : tzs Try.prog 22 = [2] := by kernel_rfl
theorem tel22 : tel Try.prog 22 = some 179 := by kernel_rfl
theorem tok23 : tok Try.prog 23 = true := by kernel_rfl
theorem tsz23 : tsz Try.prog 23 = 1 := by kernel_rfl
theorem tagg23 : tagg Try.prog 23 = false := by kernel_rfl
theorem tinfo23 : tinfo Try.prog 23 = some (1, 24) := by kernel_rfl
theorem tzc23 : tzc Try.prog 23 = some [.own 1 []] := by kernel_rfl
theorem tzs23 : tzs Try.prog 23 = [1] := by kernel_rfl
theorem tel23 : tel Try.prog 23 = some 2 := by kernel_rfl
theorem tok24 : tok Try.prog 24 = true := by kernel_rfl
theorem tsz24 : tsz Try.prog 24 = 1 := by kernel_rfl
theorem tagg24 : tagg Try.prog 24 = false := by kernel_rfl
theorem tinfo24 : tinfo Try.prog 24 = some (1, 24) := by kernel_rfl
theorem tzc24 : tzc Try.prog 24 = some [.own 6 []] := by kernel_rfl
theorem tzs24 : tzs Try.prog 24 = [6] := by kernel_rfl
theorem tel24 : tel Try.prog 24 = some 177 := by kernel_rfl
theorem tok25 : tok Try.prog 25 = true := by kernel_rfl
theorem tsz25 : tsz Try.prog 25 = 5 := by kernel_rfl
theorem tagg25 : tagg Try.prog 25 = true := by kernel_rfl
theorem tinfo25 : tinfo Try.prog 25 = some (5, 88) := by kernel_rfl
theorem tzc25 : tzc Try.prog 25 = some [.v (.int .i64 0), .v (.int .i64 0), .own 2 [], .own 1 [], .own 6 []] := by kernel_rfl
theorem tzs25 : tzs Try.prog 25 = [0, 0, 2, 1, 6] := by kernel_rfl
theorem tf25_0 : tfield Try.prog 25 0 = some (0, 2) := by kernel_rfl
theorem tf25_1 : tfield Try.prog 25 1 = some (1, 2) := by kernel_rfl
theorem tf25_2 : tfield Try.prog 25 2 = some (2, 22) := by kernel_rfl
theorem tf25_3 : tfield Try.prog 25 3 = some (3, 23) := by kernel_rfl
theorem tf25_4 : tfield Try.prog 25 4 = some (4, 24) := by kernel_rfl
theorem tpl25 : tplaces Try.prog 25 = some [(0, 1), (1, 1), (2, 1), (3, 1), (4, 1)] := by kernel_rfl
theorem tok26 : tok Try.prog 26 = true := by kernel_rfl
theorem tsz26 : tsz Try.prog 26 = 5 := by kernel_rfl
theorem tagg26 : tagg Try.prog 26 = true := by kernel_rfl
theorem tinfo26 : tinfo Try.prog 26 = some (5, 88) := by kernel_rfl
theorem tzc26 : tzc Try.prog 26 = some [.v (.int .i64 0), .v (.int .i64 0), .own 2 [], .own 1 [], .own 6 []] := by kernel_rfl
theorem tzs26 : tzs Try.prog 26 = [0, 0, 2, 1, 6] := by kernel_rfl
theorem tf26_0 : tfield Try.prog 26 0 = some (0, 2) := by kernel_rfl
theorem tf26_1 : tfield Try.prog 26 1 = some (1, 2) := by kernel_rfl
theorem tf26_2 : tfield Try.prog 26 2 = some (2, 22) := by kernel_rfl
theorem tf26_3 : tfield Try.prog 26 3 = some (3, 23) := by kernel_rfl
theorem tf26_4 : tfield Try.prog 26 4 = some (4, 24) := by kernel_rfl
theorem tpl26 : tplaces Try.prog 26 = some [(0, 1), (1, 1), (2, 1), (3, 1), (4, 1)] := by kernel_rfl
theorem tok29 : tok Try.prog 29 = true := by kernel_rfl
theorem tsz29 : tsz Try.prog 29 = 1 := by kernel_rfl
theorem tagg29 : tagg Try.prog 29 = false := by kernel_rfl
theorem tinfo29 : tinfo Try.prog 29 = some (1, 24) := by kernel_rfl
theorem tzc29 : tzc Try.prog 29 = some [.own 2 []] := by kernel_rfl
theorem tzs29 : tzs Try.prog 29 = [2] := by kernel_rfl
theorem tel29 : tel Try.prog 29 = some 172 := by kernel_rfl
theorem tok30 : tok Try.prog 30 = true := by kernel_rfl
theorem tsz30 : tsz Try.prog 30 = 1 := by kernel_rfl
theorem tagg30 : tagg Try.prog 30 = false := by kernel_rfl
theorem tinfo30 : tinfo Try.prog 30 = some (1, 24) := by kernel_rfl
theorem tzc30 : tzc Try.prog 30 = some [.own 6 []] := by kernel_rfl
theorem tzs30 : tzs Try.prog 30 = [6] := by kernel_rfl
theorem tel30 : tel Try.prog 30 = some 132 := by kernel_rfl
theorem tok31 : tok Try.prog 31 = true := by kernel_rfl
theorem tsz31 : tsz Try.prog 31 = 5 := by kernel_rfl
theorem tagg31 : tagg Try.prog 31 = true := by kernel_rfl
theorem tinfo31 : tinfo Try.prog 31 = some (5, 88) := by kernel_rfl
theorem tzc31 : tzc Try.prog 31 = some [.v (.int .i64 0), .v (.int .i64 0), .own 2 [], .own 1 [], .own 6 []] := by kernel_rfl
theorem tzs31 : tzs Try.prog 31 = [0, 0, 2, 1, 6] := by kernel_rfl
theorem tf31_0 : tfield Try.prog 31 0 = some (0, 2) := by kernel_rfl
theorem tf31_1 : tfield Try.prog 31 1 = some (1, 2) := by kernel_rfl
theorem tf31_2 : tfield Try.prog 31 2 = some (2, 29) := by kernel_rfl
theorem tf31_3 : tfield Try.prog 31 3 = some (3, 23) := by kernel_rfl
theorem tf31_4 : tfield Try.prog 31 4 = some (4, 30) := by kernel_rfl
theorem tpl31 : tplaces Try.prog 31 = some [(0, 1), (1, 1), (2, 1), (3, 1), (4, 1)] := by kernel_rfl
theorem tok32 : tok Try.prog 32 = true := by kernel_rfl
theorem tsz32 : tsz Try.prog 32 = 5 := by kernel_rfl
theorem tagg32 : tagg Try.prog 32 = true := by kernel_rfl
theorem tinfo32 : tinfo Try.prog 32 = some (5, 88) := by kernel_rfl
theorem tzc32 : tzc Try.prog 32 = some [.v (.int .i64 0), .v (.int .i64 0), .own 2 [], .own 1 [], .own 6 []] := by kernel_rfl
theorem tzs32 : tzs Try.prog 32 = [0, 0, 2, 1, 6] := by kernel_rfl
theorem tf32_0 : tfield Try.prog 32 0 = some (0, 2) := by kernel_rfl
theorem tf32_1 : tfield Try.prog 32 1 = some (1, 2) := by kernel_rfl
theorem tf32_2 : tfield Try.prog 32 2 = some (2, 29) := by kernel_rfl
theorem tf32_3 : tfield Try.prog 32 3 = some (3, 23) := by kernel_rfl
theorem tf32_4 : tfield Try.prog 32 4 = some (4, 30) := by kernel_rfl
theorem tpl32 : tplaces Try.prog 32 = some [(0, 1), (1, 1), (2, 1), (3, 1), (4, 1)] := by kernel_rfl
theorem tok36 : tok Try.prog 36 = true := by kernel_rfl
theorem tsz36 : tsz Try.prog 36 = 1 := by kernel_rfl
theorem tagg36 : tagg Try.prog 36 = false := by kernel_rfl
theorem tinfo36 : tinfo Try.prog 36 = some (1, 24) := by kernel_rfl
theorem tzc36 : tzc Try.prog 36 = some [.own 1 []] := by kernel_rfl
theorem tzs36 : tzs Try.prog 36 = [1] := by kernel_rfl
theorem tel36 : tel Try.prog 36 = some 53 := by kernel_rfl
theorem tok37 : tok Try.prog 37 = true := by kernel_rfl
theorem tsz37 : tsz Try.prog 37 = 1 := by kernel_rfl
theorem tagg37 : tagg Try.prog 37 = false := by kernel_rfl
theorem tinfo37 : tinfo Try.prog 37 = some (1, 24) := by kernel_rfl
theorem tzc37 : tzc Try.prog 37 = some [.own 3 []] := by kernel_rfl
theorem tzs37 : tzs Try.prog 37 = [3] := by kernel_rfl
theorem tel37 : tel Try.prog 37 = some 185 := by kernel_rfl
theorem tok38 : tok Try.prog 38 = true := by kernel_rfl
theorem tsz38 : tsz Try.prog 38 = 2 := by kernel_rfl
theorem tagg38 : tagg Try.prog 38 = true := by kernel_rfl
theorem tinfo38 : tinfo Try.prog 38 = some (2, 48) := by kernel_rfl
theorem tzc38 : tzc Try.prog 38 = some [.own 1 [], .own 3 []] := by kernel_rfl
theorem tzs38 : tzs Try.prog 38 = [1, 3] := by kernel_rfl
theorem tf38_0 : tfield Try.prog 38 0 = some (0, 36) := by kernel_rfl
theorem tf38_1 : tfield Try.prog 38 1 = some (1, 37) := by kernel_rfl
theorem tpl38 : tplaces Try.prog 38 = some [(0, 1), (1, 1)] := by kernel_rfl
theorem tok39 : tok Try.prog 39 = true := by kernel_rfl
theorem tsz39 : tsz Try.prog 39 = 2 := by kernel_rfl
theorem tagg39 : tagg Try.prog 39 = true := by kernel_rfl
theorem tinfo39 : tinfo Try.prog 39 = some (2, 48) := by kernel_rfl
theorem tzc39 : tzc Try.prog 39 = some [.own 1 [], .own 3 []] := by kernel_rfl
theorem tzs39 : tzs Try.prog 39 = [1, 3] := by kernel_rfl
theorem tf39_0 : tfield Try.prog 39 0 = some (0, 36) := by kernel_rfl
theorem tf39_1 : tfield Try.prog 39 1 = some (1, 37) := by kernel_rfl
theorem tpl39 : tplaces Try.prog 39 = some [(0, 1), (1, 1)] := by kernel_rfl
theorem tok41 : tok Try.prog 41 = true := by kernel_rfl
theorem tsz41 : tsz Try.prog 41 = 1 := by kernel_rfl
theorem tagg41 : tagg Try.prog 41 = false := by kernel_rfl
theorem tinfo41 : tinfo Try.prog 41 = some (1, 24) := by kernel_rfl
theorem tzc41 : tzc Try.prog 41 = some [.own 3 []] := by kernel_rfl
theorem tzs41 : tzs Try.prog 41 = [3] := by kernel_rfl
theorem tel41 : tel Try.prog 41 = some 162 := by kernel_rfl
theorem tok42 : tok Try.prog 42 = true := by kernel_rfl
theorem tsz42 : tsz Try.prog 42 = 2 := by kernel_rfl
theorem tagg42 : tagg Try.prog 42 = true := by kernel_rfl
theorem tinfo42 : tinfo Try.prog 42 = some (2, 48) := by kernel_rfl
theorem tzc42 : tzc Try.prog 42 = some [.own 1 [], .own 3 []] := by kernel_rfl
theorem tzs42 : tzs Try.prog 42 = [1, 3] := by kernel_rfl
theorem tf42_0 : tfield Try.prog 42 0 = some (0, 36) := by kernel_rfl
theorem tf42_1 : tfield Try.prog 42 1 = some (1, 41) := by kernel_rfl
theorem tpl42 : tplaces Try.prog 42 = some [(0, 1), (1, 1)] := by kernel_rfl
theorem tok43 : tok Try.prog 43 = true := by kernel_rfl
theorem tsz43 : tsz Try.prog 43 = 2 := by kernel_rfl
theorem tagg43 : tagg Try.prog 43 = true := by kernel_rfl
theorem tinfo43 : tinfo Try.prog 43 = some (2, 48) := by kernel_rfl
theorem tzc43 : tzc Try.prog 43 = some [.own 1 [], .own 3 []] := by kernel_rfl
theorem tzs43 : tzs Try.prog 43 = [1, 3] := by kernel_rfl
theorem tf43_0 : tfield Try.prog 43 0 = some (0, 36) := by kernel_rfl
theorem tf43_1 : tfield Try.prog 43 1 = some (1, 41) := by kernel_rfl
theorem tpl43 : tplaces Try.prog 43 = some [(0, 1), (1, 1)] := by kernel_rfl
theorem tok44 : tok Try.prog 44 = true := by kernel_rfl
theorem tsz44 : tsz Try.prog 44 = 3 := by kernel_rfl
theorem tagg44 : tagg Try.prog 44 = true := by kernel_rfl
theorem tinfo44 : tinfo Try.prog 44 = some (3, 56) := by kernel_rfl
theorem tzc44 : tzc Try.prog 44 = some [.v (.int .i64 0), .own 1 [], .own 3 []] := by kernel_rfl
theorem tzs44 : tzs Try.prog 44 = [0, 1, 3] := by kernel_rfl
theorem tf44_0 : tfield Try.prog 44 0 = some (0, 2) := by kernel_rfl
theorem tf44_1 : tfield Try.prog 44 1 = some (1, 43) := by kernel_rfl
theorem tpl44 : tplaces Try.prog 44 = some [(0, 1), (1, 2)] := by kernel_rfl
theorem tok45 : tok Try.prog 45 = true := by kernel_rfl
theorem tsz45 : tsz Try.prog 45 = 3 := by kernel_rfl
theorem tagg45 : tagg Try.prog 45 = true := by kernel_rfl
theorem tinfo45 : tinfo Try.prog 45 = some (3, 56) := by kernel_rfl
theorem tzc45 : tzc Try.prog 45 = some [.v (.int .i64 0), .own 1 [], .own 3 []] := by kernel_rfl
theorem tzs45 : tzs Try.prog 45 = [0, 1, 3] := by kernel_rfl
theorem tf45_0 : tfield Try.prog 45 0 = some (0, 2) := by kernel_rfl
theorem tf45_1 : tfield Try.prog 45 1 = some (1, 43) := by kernel_rfl
theorem tpl45 : tplaces Try.prog 45 = some [(0, 1), (1, 2)] := by kernel_rfl
theorem tok53 : tok Try.prog 53 = true := by kernel_rfl
theorem tsz53 : tsz Try.prog 53 = 1 := by kernel_rfl
theorem tagg53 : tagg Try.prog 53 = false := by kernel_rfl
theorem tinfo53 : tinfo Try.prog 53 = some (1, 24) := by kernel_rfl
theorem tzc53 : tzc Try.prog 53 = some [.own 1 []] := by kernel_rfl
theorem tzs53 : tzs Try.prog 53 = [1] := by kernel_rfl
theorem tel53 : tel Try.prog 53 = some 5 := by kernel_rfl
theorem tok55 : tok Try.prog 55 = true := by kernel_rfl
theorem tsz55 : tsz Try.prog 55 = 2 := by kernel_rfl
theorem tagg55 : tagg Try.prog 55 = true := by kernel_rfl
theorem tinfo55 : tinfo Try.prog 55 = some (2, 48) := by kernel_rfl
theorem tzc55 : tzc Try.prog 55 = some [.own 1 [], .own 1 []] := by kernel_rfl
theorem tzs55 : tzs Try.prog 55 = [1, 1] := by kernel_rfl
theorem tf55_0 : tfield Try.prog 55 0 = some (0, 53) := by kernel_rfl
theorem tf55_1 : tfield Try.prog 55 1 = some (1, 53) := by kernel_rfl
theorem tpl55 : tplaces Try.prog 55 = some [(0, 1), (1, 1)] := by kernel_rfl
theorem tok56 : tok Try.prog 56 = true := by kernel_rfl
theorem tsz56 : tsz Try.prog 56 = 2 := by kernel_rfl
theorem tagg56 : tagg Try.prog 56 = true := by kernel_rfl
theorem tinfo56 : tinfo Try.prog 56 = some (2, 48) := by kernel_rfl
theorem tzc56 : tzc Try.prog 56 = some [.own 1 [], .own 1 []] := by kernel_rfl
theorem tzs56 : tzs Try.prog 56 = [1, 1] := by kernel_rfl
theorem tf56_0 : tfield Try.prog 56 0 = some (0, 53) := by kernel_rfl
theorem tf56_1 : tfield Try.prog 56 1 = some (1, 53) := by kernel_rfl
theorem tpl56 : tplaces Try.prog 56 = some [(0, 1), (1, 1)] := by kernel_rfl
theorem tok57 : tok Try.prog 57 = true := by kernel_rfl
theorem tsz57 : tsz Try.prog 57 = 8 := by kernel_rfl
theorem tagg57 : tagg Try.prog 57 = true := by kernel_rfl
theorem tinfo57 : tinfo Try.prog 57 = some (8, 64) := by kernel_rfl
theorem tzc57 : tzc Try.prog 57 = some [.v (.int .i64 0), .v (.int .i64 0), .v (.int .i64 0), .v (.bool false), .v (.int .i64 0), .v (.bool false), .v (.int .i64 0), .v (.int .i64 0)] := by kernel_rfl
theorem tzs57 : tzs Try.prog 57 = [0, 0, 0, 0, 0, 0, 0, 0] := by kernel_rfl
theorem tf57_0 : tfield Try.prog 57 0 = some (0, 2) := by kernel_rfl
theorem tf57_1 : tfield Try.prog 57 1 = some (1, 2) := by kernel_rfl
theorem tf57_2 : tfield Try.prog 57 2 = some (2, 2) := by kernel_rfl
theorem tf57_3 : tfield Try.prog 57 3 = some (3, 4) := by kernel_rfl
theorem tf57_4 : tfield Try.prog 57 4 = some (4, 2) := by kernel_rfl
theorem tf57_5 : tfield Try.prog 57 5 = some (5, 4) := by kernel_rfl
theorem tf57_6 : tfield Try.prog 57 6 = some (6, 2) := by kernel_rfl
theorem tf57_7 : tfield Try.prog 57 7 = some (7, 2) := by kernel_rfl
theorem tpl57 : tplaces Try.prog 57 = some [(0, 1), (1, 1), (2, 1), (3, 1), (4, 1), (5, 1), (6, 1), (7, 1)] := by kernel_rfl
theorem tok58 : tok Try.prog 58 = true := by kernel_rfl
theorem tsz58 : tsz Try.prog 58 = 8 := by kernel_rfl
theorem tagg58 : tagg Try.prog 58 = true := by kernel_rfl
theorem tinfo58 : tinfo Try.prog 58 = some (8, 64) := by kernel_rfl
theorem tzc58 : tzc Try.prog 58 = some [.v (.int .i64 0), .v (.int .i64 0), .v (.int .i64 0), .v (.bool false), .v (.int .i64 0), .v (.bool false), .v (.int .i64 0), .v (.int .i64 0)] := by kernel_rfl
theorem tzs58 : tzs Try.prog 58 = [0, 0, 0, 0, 0, 0, 0, 0] := by kernel_rfl
theorem tf58_0 : tfield Try.prog 58 0 = some (0, 2) := by kernel_rfl
theorem tf58_1 : tfield Try.prog 58 1 = some (1, 2) := by kernel_rfl
theorem tf58_2 : tfield Try.prog 58 2 = some (2, 2) := by kernel_rfl
theorem tf58_3 : tfield Try.prog 58 3 = some (3, 4) := by kernel_rfl
theorem tf58_4 : tfield Try.prog 58 4 = some (4, 2) := by kernel_rfl
theorem tf58_5 : tfield Try.prog 58 5 = some (5, 4) := by kernel_rfl
theorem tf58_6 : tfield Try.prog 58 6 = some (6, 2) := by kernel_rfl
theorem tf58_7 : tfield Try.prog 58 7 = some (7, 2) := by kernel_rfl
theorem tpl58 : tplaces Try.prog 58 = some [(0, 1), (1, 1), (2, 1), (3, 1), (4, 1), (5, 1), (6, 1), (7, 1)] := by kernel_rfl
theorem tok61 : tok Try.prog 61 = true := by kernel_rfl
theorem tsz61 : tsz Try.prog 61 = 4 := by kernel_rfl
theorem tagg61 : tagg Try.prog 61 = true := by kernel_rfl
theorem tinfo61 : tinfo Try.prog 61 = some (4, 64) := by kernel_rfl
theorem tzc61 : tzc Try.prog 61 = some [.v (.int .i64 0), .v (.int .i64 0), .own 1 [], .own 1 []] := by kernel_rfl
theorem tzs61 : tzs Try.prog 61 = [0, 0, 1, 1] := by kernel_rfl
theorem tf61_0 : tfield Try.prog 61 0 = some (0, 2) := by kernel_rfl
theorem tf61_1 : tfield Try.prog 61 1 = some (1, 2) := by kernel_rfl
theorem tf61_2 : tfield Try.prog 61 2 = some (2, 56) := by kernel_rfl
theorem tpl61 : tplaces Try.prog 61 = some [(0, 1), (1, 1), (2, 2)] := by kernel_rfl
theorem tok62 : tok Try.prog 62 = true := by kernel_rfl
theorem tsz62 : tsz Try.prog 62 = 4 := by kernel_rfl
theorem tagg62 : tagg Try.prog 62 = true := by kernel_rfl
theorem tinfo62 : tinfo Try.prog 62 = some (4, 64) := by kernel_rfl
theorem tzc62 : tzc Try.prog 62 = some [.v (.int .i64 0), .v (.int .i64 0), .own 1 [], .own 1 []] := by kernel_rfl
theorem tzs62 : tzs Try.prog 62 = [0, 0, 1, 1] := by kernel_rfl
theorem tf62_0 : tfield Try.prog 62 0 = some (0, 2) := by kernel_rfl
theorem tf62_1 : tfield Try.prog 62 1 = some (1, 2) := by kernel_rfl
theorem tf62_2 : tfield Try.prog 62 2 = some (2, 56) := by kernel_rfl
theorem tpl62 : tplaces Try.prog 62 = some [(0, 1), (1, 1), (2, 2)] := by kernel_rfl
theorem tok64 : tok Try.prog 64 = true := by kernel_rfl
theorem tsz64 : tsz Try.prog 64 = 1 := by kernel_rfl
theorem tagg64 : tagg Try.prog 64 = false := by kernel_rfl
theorem tinfo64 : tinfo Try.prog 64 = some (1, 24) := by kernel_rfl
theorem tzc64 : tzc Try.prog 64 = some [.own 8 []] := by kernel_rfl
theorem tzs64 : tzs Try.prog 64 = [8] := by kernel_rfl
theorem tel64 : tel Try.prog 64 = some 58 := by kernel_rfl
theorem tok65 : tok Try.prog 65 = true := by kernel_rfl
theorem tsz65 : tsz Try.prog 65 = 3 := by kernel_rfl
theorem tagg65 : tagg Try.prog 65 = true := by kernel_rfl
theorem tinfo65 : tinfo Try.prog 65 = some (3, 40) := by kernel_rfl
theorem tzc65 : tzc Try.prog 65 = some [.v (.int .i64 0), .v (.int .i64 0), .own 8 []] := by kernel_rfl
theorem tzs65 : tzs Try.prog 65 = [0, 0, 8] := by kernel_rfl
theorem tf65_0 : tfield Try.prog 65 0 = some (0, 2) := by kernel_rfl
theorem tf65_1 : tfield Try.prog 65 1 = some (1, 2) := by kernel_rfl
theorem tf65_2 : tfield Try.prog 65 2 = some (2, 64) := by kernel_rfl
theorem tpl65 : tplaces Try.prog 65 = some [(0, 1), (1, 1), (2, 1)] := by kernel_rfl
theorem tok66 : tok Try.prog 66 = true := by kernel_rfl
theorem tsz66 : tsz Try.prog 66 = 3 := by kernel_rfl
theorem tagg66 : tagg Try.prog 66 = true := by kernel_rfl
theorem tinfo66 : tinfo Try.prog 66 = some (3, 40) := by kernel_rfl
theorem tzc66 : tzc Try.prog 66 = some [.v (.int .i64 0), .v (.int .i64 0), .own 8 []] := by kernel_rfl
theorem tzs66 : tzs Try.prog 66 = [0, 0, 8] := by kernel_rfl
theorem tf66_0 : tfield Try.prog 66 0 = some (0, 2) := by kernel_rfl
theorem tf66_1 : tfield Try.prog 66 1 = some (1, 2) := by kernel_rfl
theorem tf66_2 : tfield Try.prog 66 2 = some (2, 64) := by kernel_rfl
theorem tpl66 : tplaces Try.prog 66 = some [(0, 1), (1, 1), (2, 1)] := by kernel_rfl
theorem tok68 : tok Try.prog 68 = true := by kernel_rfl
theorem tsz68 : tsz Try.prog 68 = 2 := by kernel_rfl
theorem tagg68 : tagg Try.prog 68 = true := by kernel_rfl
theorem tinfo68 : tinfo Try.prog 68 = some (2, 32) := by kernel_rfl
theorem tzc68 : tzc Try.prog 68 = some [.v (.int .i64 0), .own 1 []] := by kernel_rfl
theorem tzs68 : tzs Try.prog 68 = [0, 1] := by kernel_rfl
theorem tf68_0 : tfield Try.prog 68 0 = some (0, 2) := by kernel_rfl
theorem tf68_1 : tfield Try.prog 68 1 = some (1, 53) := by kernel_rfl
theorem tpl68 : tplaces Try.prog 68 = some [(0, 1), (1, 1)] := by kernel_rfl
theorem tok69 : tok Try.prog 69 = true := by kernel_rfl
theorem tsz69 : tsz Try.prog 69 = 2 := by kernel_rfl
theorem tagg69 : tagg Try.prog 69 = true := by kernel_rfl
theorem tinfo69 : tinfo Try.prog 69 = some (2, 32) := by kernel_rfl
theorem tzc69 : tzc Try.prog 69 = some [.v (.int .i64 0), .own 1 []] := by kernel_rfl
theorem tzs69 : tzs Try.prog 69 = [0, 1] := by kernel_rfl
theorem tf69_0 : tfield Try.prog 69 0 = some (0, 2) := by kernel_rfl
theorem tf69_1 : tfield Try.prog 69 1 = some (1, 53) := by kernel_rfl
theorem tpl69 : tplaces Try.prog 69 = some [(0, 1), (1, 1)] := by kernel_rfl
theorem tok74 : tok Try.prog 74 = true := by kernel_rfl
theorem tsz74 : tsz Try.prog 74 = 2 := by kernel_rfl
theorem tagg74 : tagg Try.prog 74 = true := by kernel_rfl
theorem tinfo74 : tinfo Try.prog 74 = some (2, 48) := by kernel_rfl
theorem tzc74 : tzc Try.prog 74 = some [.own 1 [], .own 1 []] := by kernel_rfl
theorem tzs74 : tzs Try.prog 74 = [1, 1] := by kernel_rfl
theorem tf74_0 : tfield Try.prog 74 0 = some (0, 53) := by kernel_rfl
theorem tf74_1 : tfield Try.prog 74 1 = some (1, 53) := by kernel_rfl
theorem tpl74 : tplaces Try.prog 74 = some [(0, 1), (1, 1)] := by kernel_rfl
theorem tok75 : tok Try.prog 75 = true := by kernel_rfl
theorem tsz75 : tsz Try.prog 75 = 8 := by kernel_rfl
theorem tagg75 : tagg Try.prog 75 = true := by kernel_rfl
theorem tinfo75 : tinfo Try.prog 75 = some (8, 64) := by kernel_rfl
theorem tzc75 : tzc Try.prog 75 = some [.v (.int .i64 0), .v (.int .i64 0), .v (.int .i64 0), .v (.bool false), .v (.int .i64 0), .v (.bool false), .v (.int .i64 0), .v (.int .i64 0)] := by kernel_rfl
theorem tzs75 : tzs Try.prog 75 = [0, 0, 0, 0, 0, 0, 0, 0] := by kernel_rfl
theorem tf75_0 : tfield Try.prog 75 0 = some (0, 2) := by kernel_rfl
theorem tf75_1 : tfield Try.prog 75 1 = some (1, 2) := by kernel_rfl
theorem tf75_2 : tfield Try.prog 75 2 = some (2, 2) := by kernel_rfl
theorem tf75_3 : tfield Try.prog 75 3 = some (3, 4) := by kernel_rfl
theorem tf75_4 : tfield Try.prog 75 4 = some (4, 2) := by kernel_rfl
theorem tf75_5 : tfield Try.prog 75 5 = some (5, 4) := by kernel_rfl
theorem tf75_6 : tfield Try.prog 75 6 = some (6, 2) := by kernel_rfl
theorem tf75_7 : tfield Try.prog 75 7 = some (7, 2) := by kernel_rfl
theorem tpl75 : tplaces Try.prog 75 = some [(0, 1), (1, 1), (2, 1), (3, 1), (4, 1), (5, 1), (6, 1), (7, 1)] := by kernel_rfl
theorem tok94 : tok Try.prog 94 = true := by kernel_rfl
theorem tsz94 : tsz Try.prog 94 = 3 := by kernel_rfl
theorem tagg94 : tagg Try.prog 94 = true := by kernel_rfl
theorem tinfo94 : tinfo Try.prog 94 = some (3, 40) := by kernel_rfl
theorem tzc94 : tzc Try.prog 94 = some [.v (.int .i64 0), .v (.int .i64 0), .own 2 []] := by kernel_rfl
theorem tzs94 : tzs Try.prog 94 = [0, 0, 2] := by kernel_rfl
theorem tf94_0 : tfield Try.prog 94 0 = some (0, 2) := by kernel_rfl
theorem tf94_1 : tfield Try.prog 94 1 = some (1, 2) := by kernel_rfl
theorem tf94_2 : tfield Try.prog 94 2 = some (2, 29) := by kernel_rfl
theorem tpl94 : tplaces Try.prog 94 = some [(0, 1), (1, 1), (2, 1)] := by kernel_rfl
theorem tok95 : tok Try.prog 95 = true := by kernel_rfl
theorem tsz95 : tsz Try.prog 95 = 3 := by kernel_rfl
theorem tagg95 : tagg Try.prog 95 = true := by kernel_rfl
theorem tinfo95 : tinfo Try.prog 95 = some (3, 40) := by kernel_rfl
theorem tzc95 : tzc Try.prog 95 = some [.v (.int .i64 0), .v (.int .i64 0), .own 2 []] := by kernel_rfl
theorem tzs95 : tzs Try.prog 95 = [0, 0, 2] := by kernel_rfl
theorem tf95_0 : tfield Try.prog 95 0 = some (0, 2) := by kernel_rfl
theorem tf95_1 : tfield Try.prog 95 1 = some (1, 2) := by kernel_rfl
theorem tf95_2 : tfield Try.prog 95 2 = some (2, 29) := by kernel_rfl
theorem tpl95 : tplaces Try.prog 95 = some [(0, 1), (1, 1), (2, 1)] := by kernel_rfl
theorem tok99 : tok Try.prog 99 = true := by kernel_rfl
theorem tsz99 : tsz Try.prog 99 = 4 := by kernel_rfl
theorem tagg99 : tagg Try.prog 99 = true := by kernel_rfl
theorem tinfo99 : tinfo Try.prog 99 = some (4, 48) := by kernel_rfl
theorem tzc99 : tzc Try.prog 99 = some [.v (.int .i64 0), .v (.int .i64 0), .v (.int .i64 0), .own 2 []] := by kernel_rfl
theorem tzs99 : tzs Try.prog 99 = [0, 0, 0, 2] := by kernel_rfl
theorem tf99_0 : tfield Try.prog 99 0 = some (0, 2) := by kernel_rfl
theorem tf99_1 : tfield Try.prog 99 1 = some (1, 95) := by kernel_rfl
theorem tpl99 : tplaces Try.prog 99 = some [(0, 1), (1, 3)] := by kernel_rfl
theorem tok100 : tok Try.prog 100 = true := by kernel_rfl
theorem tsz100 : tsz Try.prog 100 = 4 := by kernel_rfl
theorem tagg100 : tagg Try.prog 100 = true := by kernel_rfl
theorem tinfo100 : tinfo Try.prog 100 = some (4, 48) := by kernel_rfl
theorem tzc100 : tzc Try.prog 100 = some [.v (.int .i64 0), .v (.int .i64 0), .v (.int .i64 0), .own 2 []] := by kernel_rfl
theorem tzs100 : tzs Try.prog 100 = [0, 0, 0, 2] := by kernel_rfl
theorem tf100_0 : tfield Try.prog 100 0 = some (0, 2) := by kernel_rfl
theorem tf100_1 : tfield Try.prog 100 1 = some (1, 95) := by kernel_rfl
theorem tpl100 : tplaces Try.prog 100 = some [(0, 1), (1, 3)] := by kernel_rfl
theorem tok106 : tok Try.prog 106 = true := by kernel_rfl
theorem tsz106 : tsz Try.prog 106 = 2 := by kernel_rfl
theorem tagg106 : tagg Try.prog 106 = true := by kernel_rfl
theorem tinfo106 : tinfo Try.prog 106 = some (2, 32) := by kernel_rfl
theorem tzc106 : tzc Try.prog 106 = some [.v (.int .i64 0), .own 1 []] := by kernel_rfl
theorem tzs106 : tzs Try.prog 106 = [0, 1] := by kernel_rfl
theorem tf106_0 : tfield Try.prog 106 0 = some (0, 2) := by kernel_rfl
theorem tf106_1 : tfield Try.prog 106 1 = some (1, 23) := by kernel_rfl
theorem tpl106 : tplaces Try.prog 106 = some [(0, 1), (1, 1)] := by kernel_rfl
theorem tok107 : tok Try.prog 107 = true := by kernel_rfl
theorem tsz107 : tsz Try.prog 107 = 2 := by kernel_rfl
theorem tagg107 : tagg Try.prog 107 = true := by kernel_rfl
theorem tinfo107 : tinfo Try.prog 107 = some (2, 32) := by kernel_rfl
theorem tzc107 : tzc Try.prog 107 = some [.v (.int .i64 0), .own 1 []] := by kernel_rfl
theorem tzs107 : tzs Try.prog 107 = [0, 1] := by kernel_rfl
theorem tf107_0 : tfield Try.prog 107 0 = some (0, 2) := by kernel_rfl
theorem tf107_1 : tfield Try.prog 107 1 = some (1, 23) := by kernel_rfl
theorem tpl107 : tplaces Try.prog 107 = some [(0, 1), (1, 1)] := by kernel_rfl
theorem tok114 : tok Try.prog 114 = true := by kernel_rfl
theorem tsz114 : tsz Try.prog 114 = 3 := by kernel_rfl
theorem tagg114 : tagg Try.prog 114 = true := by kernel_rfl
theorem tinfo114 : tinfo Try.prog 114 = some (3, 40) := by kernel_rfl
theorem tzc114 : tzc Try.prog 114 = some [.v (.int .i64 0), .v (.int .i64 0), .own 2 []] := by kernel_rfl
theorem tzs114 : tzs Try.prog 114 = [0, 0, 2] := by kernel_rfl
theorem tf114_0 : tfield Try.prog 114 0 = some (0, 2) := by kernel_rfl
theorem tf114_1 : tfield Try.prog 114 1 = some (1, 2) := by kernel_rfl
theorem tf114_2 : tfield Try.prog 114 2 = some (2, 22) := by kernel_rfl
theorem tpl114 : tplaces Try.prog 114 = some [(0, 1), (1, 1), (2, 1)] := by kernel_rfl
theorem tok115 : tok Try.prog 115 = true := by kernel_rfl
theorem tsz115 : tsz Try.prog 115 = 3 := by kernel_rfl
theorem tagg115 : tagg Try.prog 115 = true := by kernel_rfl
theorem tinfo115 : tinfo Try.prog 115 = some (3, 40) := by kernel_rfl
theorem tzc115 : tzc Try.prog 115 = some [.v (.int .i64 0), .v (.int .i64 0), .own 2 []] := by kernel_rfl
theorem tzs115 : tzs Try.prog 115 = [0, 0, 2] := by kernel_rfl
theorem tf115_0 : tfield Try.prog 115 0 = some (0, 2) := by kernel_rfl
theorem tf115_1 : tfield Try.prog 115 1 = some (1, 2) := by kernel_rfl
theorem tf115_2 : tfield Try.prog 115 2 = some (2, 22) := by kernel_rfl
theorem tpl115 : tplaces Try.prog 115 = some [(0, 1), (1, 1), (2, 1)] := by kernel_rfl
theorem tok127 : tok Try.prog 127 = true := by kernel_rfl
theorem tsz127 : tsz Try.prog 127 = 1 := by kernel_rfl
theorem tagg127 : tagg Try.prog 127 = false := by kernel_rfl
theorem tinfo127 : tinfo Try.prog 127 = some (1, 8) := by kernel_rfl
theorem tzc127 : tzc Try.prog 127 = some [.v (.pointer none)] := by kernel_rfl
theorem tzs127 : tzs Try.prog 127 = [0] := by kernel_rfl
theorem tok131 : tok Try.prog 131 = true := by kernel_rfl
theorem tsz131 : tsz Try.prog 131 = 6 := by kernel_rfl
theorem tagg131 : tagg Try.prog 131 = true := by kernel_rfl
theorem tinfo131 : tinfo Try.prog 131 = some (6, 96) := by kernel_rfl
theorem tzc131 : tzc Try.prog 131 = some [.v (.int .i64 0), .v (.int .i64 0), .v (.int .i64 0), .own 2 [], .own 2 [], .own 1 []] := by kernel_rfl
theorem tzs131 : tzs Try.prog 131 = [0, 0, 0, 2, 2, 1] := by kernel_rfl
theorem tf131_0 : tfield Try.prog 131 0 = some (0, 2) := by kernel_rfl
theorem tf131_1 : tfield Try.prog 131 1 = some (1, 2) := by kernel_rfl
theorem tf131_2 : tfield Try.prog 131 2 = some (2, 2) := by kernel_rfl
theorem tf131_3 : tfield Try.prog 131 3 = some (3, 29) := by kernel_rfl
theorem tf131_4 : tfield Try.prog 131 4 = some (4, 29) := by kernel_rfl
theorem tf131_5 : tfield Try.prog 131 5 = some (5, 23) := by kernel_rfl
theorem tpl131 : tplaces Try.prog 131 = some [(0, 1), (1, 1), (2, 1), (3, 1), (4, 1), (5, 1)] := by kernel_rfl
theorem tok132 : tok Try.prog 132 = true := by kernel_rfl
theorem tsz132 : tsz Try.prog 132 = 6 := by kernel_rfl
theorem tagg132 : tagg Try.prog 132 = true := by kernel_rfl
theorem tinfo132 : tinfo Try.prog 132 = some (6, 96) := by kernel_rfl
theorem tzc132 : tzc Try.prog 132 = some [.v (.int .i64 0), .v (.int .i64 0), .v (.int .i64 0), .own 2 [], .own 2 [], .own 1 []] := by kernel_rfl
theorem tzs132 : tzs Try.prog 132 = [0, 0, 0, 2, 2, 1] := by kernel_rfl
theorem tf132_0 : tfield Try.prog 132 0 = some (0, 2) := by kernel_rfl
theorem tf132_1 : tfield Try.prog 132 1 = some (1, 2) := by kernel_rfl
theorem tf132_2 : tfield Try.prog 132 2 = some (2, 2) := by kernel_rfl
theorem tf132_3 : tfield Try.prog 132 3 = some (3, 29) := by kernel_rfl
theorem tf132_4 : tfield Try.prog 132 4 = some (4, 29) := by kernel_rfl
theorem tf132_5 : tfield Try.prog 132 5 = some (5, 23) := by kernel_rfl
theorem tpl132 : tplaces Try.prog 132 = some [(0, 1), (1, 1), (2, 1), (3, 1), (4, 1), (5, 1)] := by kernel_rfl
theorem tok133 : tok Try.prog 133 = true := by kernel_rfl
theorem tsz133 : tsz Try.prog 133 = 1 := by kernel_rfl
theorem tagg133 : tagg Try.prog 133 = false := by kernel_rfl
theorem tinfo133 : tinfo Try.prog 133 = some (1, 24) := by kernel_rfl
theorem tzc133 : tzc Try.prog 133 = some [.own 1 []] := by kernel_rfl
theorem tzs133 : tzs Try.prog 133 = [1] := by kernel_rfl
theorem tel133 : tel Try.prog 133 = some 29 := by kernel_rfl
theorem tok145 : tok Try.prog 145 = true := by kernel_rfl
theorem tsz145 : tsz Try.prog 145 = 1 := by kernel_rfl
theorem tagg145 : tagg Try.prog 145 = false := by kernel_rfl
theorem tinfo145 : tinfo Try.prog 145 = some (1, 8) := by kernel_rfl
theorem tzc145 : tzc Try.prog 145 = some [.v (.pointer none)] := by kernel_rfl
theorem tzs145 : tzs Try.prog 145 = [0] := by kernel_rfl
theorem tok157 : tok Try.prog 157 = true := by kernel_rfl
theorem tsz157 : tsz Try.prog 157 = 1 := by kernel_rfl
theorem tagg157 : tagg Try.prog 157 = false := by kernel_rfl
theorem tinfo157 : tinfo Try.prog 157 = some (1, 8) := by kernel_rfl
theorem tzc157 : tzc Try.prog 157 = some [.v (.pointer none)] := by kernel_rfl
theorem tzs157 : tzs Try.prog 157 = [0] := by kernel_rfl
theorem tok161 : tok Try.prog 161 = true := by kernel_rfl
theorem tsz161 : tsz Try.prog 161 = 3 := by kernel_rfl
theorem tagg161 : tagg Try.prog 161 = true := by kernel_rfl
theorem tinfo161 : tinfo Try.prog 161 = some (3, 40) := by kernel_rfl
theorem tzc161 : tzc Try.prog 161 = some [.v (.int .i64 0), .v (.int .i64 0), .own 1 []] := by kernel_rfl
theorem tzs161 : tzs Try.prog 161 = [0, 0, 1] := by kernel_rfl
theorem tf161_0 : tfield Try.prog 161 0 = some (0, 2) := by kernel_rfl
theorem tf161_1 : tfield Try.prog 161 1 = some (1, 2) := by kernel_rfl
theorem tf161_2 : tfield Try.prog 161 2 = some (2, 53) := by kernel_rfl
theorem tpl161 : tplaces Try.prog 161 = some [(0, 1), (1, 1), (2, 1)] := by kernel_rfl
theorem tok162 : tok Try.prog 162 = true := by kernel_rfl
theorem tsz162 : tsz Try.prog 162 = 3 := by kernel_rfl
theorem tagg162 : tagg Try.prog 162 = true := by kernel_rfl
theorem tinfo162 : tinfo Try.prog 162 = some (3, 40) := by kernel_rfl
theorem tzc162 : tzc Try.prog 162 = some [.v (.int .i64 0), .v (.int .i64 0), .own 1 []] := by kernel_rfl
theorem tzs162 : tzs Try.prog 162 = [0, 0, 1] := by kernel_rfl
theorem tf162_0 : tfield Try.prog 162 0 = some (0, 2) := by kernel_rfl
theorem tf162_1 : tfield Try.prog 162 1 = some (1, 2) := by kernel_rfl
theorem tf162_2 : tfield Try.prog 162 2 = some (2, 53) := by kernel_rfl
theorem tpl162 : tplaces Try.prog 162 = some [(0, 1), (1, 1), (2, 1)] := by kernel_rfl
theorem tok171 : tok Try.prog 171 = true := by kernel_rfl
theorem tsz171 : tsz Try.prog 171 = 2 := by kernel_rfl
theorem tagg171 : tagg Try.prog 171 = true := by kernel_rfl
theorem tinfo171 : tinfo Try.prog 171 = some (2, 16) := by kernel_rfl
theorem tzc171 : tzc Try.prog 171 = some [.v (.int .i64 0), .v (.int .i64 0)] := by kernel_rfl
theorem tzs171 : tzs Try.prog 171 = [0, 0] := by kernel_rfl
theorem tf171_0 : tfield Try.prog 171 0 = some (0, 2) := by kernel_rfl
theorem tf171_1 : tfield Try.prog 171 1 = some (1, 2) := by kernel_rfl
theorem tpl171 : tplaces Try.prog 171 = some [(0, 1), (1, 1)] := by kernel_rfl
theorem tok172 : tok Try.prog 172 = true := by kernel_rfl
theorem tsz172 : tsz Try.prog 172 = 2 := by kernel_rfl
theorem tagg172 : tagg Try.prog 172 = true := by kernel_rfl
theorem tinfo172 : tinfo Try.prog 172 = some (2, 16) := by kernel_rfl
theorem tzc172 : tzc Try.prog 172 = some [.v (.int .i64 0), .v (.int .i64 0)] := by kernel_rfl
theorem tzs172 : tzs Try.prog 172 = [0, 0] := by kernel_rfl
theorem tf172_0 : tfield Try.prog 172 0 = some (0, 2) := by kernel_rfl
theorem tf172_1 : tfield Try.prog 172 1 = some (1, 2) := by kernel_rfl
theorem tpl172 : tplaces Try.prog 172 = some [(0, 1), (1, 1)] := by kernel_rfl
theorem tok176 : tok Try.prog 176 = true := by kernel_rfl
theorem tsz176 : tsz Try.prog 176 = 6 := by kernel_rfl
theorem tagg176 : tagg Try.prog 176 = true := by kernel_rfl
theorem tinfo176 : tinfo Try.prog 176 = some (6, 96) := by kernel_rfl
theorem tzc176 : tzc Try.prog 176 = some [.v (.int .i64 0), .v (.int .i64 0), .v (.int .i64 0), .own 2 [], .own 2 [], .own 1 []] := by kernel_rfl
theorem tzs176 : tzs Try.prog 176 = [0, 0, 0, 2, 2, 1] := by kernel_rfl
theorem tf176_0 : tfield Try.prog 176 0 = some (0, 2) := by kernel_rfl
theorem tf176_1 : tfield Try.prog 176 1 = some (1, 2) := by kernel_rfl
theorem tf176_2 : tfield Try.prog 176 2 = some (2, 2) := by kernel_rfl
theorem tf176_3 : tfield Try.prog 176 3 = some (3, 22) := by kernel_rfl
theorem tf176_4 : tfield Try.prog 176 4 = some (4, 22) := by kernel_rfl
theorem tf176_5 : tfield Try.prog 176 5 = some (5, 23) := by kernel_rfl
theorem tpl176 : tplaces Try.prog 176 = some [(0, 1), (1, 1), (2, 1), (3, 1), (4, 1), (5, 1)] := by kernel_rfl
theorem tok177 : tok Try.prog 177 = true := by kernel_rfl
theorem tsz177 : tsz Try.prog 177 = 6 := by kernel_rfl
theorem tagg177 : tagg Try.prog 177 = true := by kernel_rfl
theorem tinfo177 : tinfo Try.prog 177 = some (6, 96) := by kernel_rfl
theorem tzc177 : tzc Try.prog 177 = some [.v (.int .i64 0), .v (.int .i64 0), .v (.int .i64 0), .own 2 [], .own 2 [], .own 1 []] := by kernel_rfl
theorem tzs177 : tzs Try.prog 177 = [0, 0, 0, 2, 2, 1] := by kernel_rfl
theorem tf177_0 : tfield Try.prog 177 0 = some (0, 2) := by kernel_rfl
theorem tf177_1 : tfield Try.prog 177 1 = some (1, 2) := by kernel_rfl
theorem tf177_2 : tfield Try.prog 177 2 = some (2, 2) := by kernel_rfl
theorem tf177_3 : tfield Try.prog 177 3 = some (3, 22) := by kernel_rfl
theorem tf177_4 : tfield Try.prog 177 4 = some (4, 22) := by kernel_rfl
theorem tf177_5 : tfield Try.prog 177 5 = some (5, 23) := by kernel_rfl
theorem tpl177 : tplaces Try.prog 177 = some [(0, 1), (1, 1), (2, 1), (3, 1), (4, 1), (5, 1)] := by kernel_rfl
theorem tok179 : tok Try.prog 179 = true := by kernel_rfl
theorem tsz179 : tsz Try.prog 179 = 2 := by kernel_rfl
theorem tagg179 : tagg Try.prog 179 = true := by kernel_rfl
theorem tinfo179 : tinfo Try.prog 179 = some (2, 16) := by kernel_rfl
theorem tzc179 : tzc Try.prog 179 = some [.v (.int .i64 0), .v (.int .i64 0)] := by kernel_rfl
theorem tzs179 : tzs Try.prog 179 = [0, 0] := by kernel_rfl
theorem tf179_0 : tfield Try.prog 179 0 = some (0, 2) := by kernel_rfl
theorem tf179_1 : tfield Try.prog 179 1 = some (1, 2) := by kernel_rfl
theorem tpl179 : tplaces Try.prog 179 = some [(0, 1), (1, 1)] := by kernel_rfl
theorem tok185 : tok Try.prog 185 = true := by kernel_rfl
theorem tsz185 : tsz Try.prog 185 = 3 := by kernel_rfl
theorem tagg185 : tagg Try.prog 185 = true := by kernel_rfl
theorem tinfo185 : tinfo Try.prog 185 = some (3, 40) := by kernel_rfl
theorem tzc185 : tzc Try.prog 185 = some [.v (.int .i64 0), .v (.int .i64 0), .own 1 []] := by kernel_rfl
theorem tzs185 : tzs Try.prog 185 = [0, 0, 1] := by kernel_rfl
theorem tf185_0 : tfield Try.prog 185 0 = some (0, 2) := by kernel_rfl
theorem tf185_1 : tfield Try.prog 185 1 = some (1, 2) := by kernel_rfl
theorem tf185_2 : tfield Try.prog 185 2 = some (2, 53) := by kernel_rfl
theorem tpl185 : tplaces Try.prog 185 = some [(0, 1), (1, 1), (2, 1)] := by kernel_rfl
theorem tok188 : tok Try.prog 188 = true := by kernel_rfl
theorem tsz188 : tsz Try.prog 188 = 2 := by kernel_rfl
theorem tagg188 : tagg Try.prog 188 = true := by kernel_rfl
theorem tinfo188 : tinfo Try.prog 188 = some (2, 32) := by kernel_rfl
theorem tzc188 : tzc Try.prog 188 = some [.own 1 [], .v (.int .i64 0)] := by kernel_rfl
theorem tzs188 : tzs Try.prog 188 = [1, 0] := by kernel_rfl
theorem tf188_0 : tfield Try.prog 188 0 = some (0, 53) := by kernel_rfl
theorem tf188_1 : tfield Try.prog 188 1 = some (1, 2) := by kernel_rfl
theorem tpl188 : tplaces Try.prog 188 = some [(0, 1), (1, 1)] := by kernel_rfl
theorem tok189 : tok Try.prog 189 = true := by kernel_rfl
theorem tsz189 : tsz Try.prog 189 = 2 := by kernel_rfl
theorem tagg189 : tagg Try.prog 189 = true := by kernel_rfl
theorem tinfo189 : tinfo Try.prog 189 = some (2, 32) := by kernel_rfl
theorem tzc189 : tzc Try.prog 189 = some [.own 1 [], .v (.int .i64 0)] := by kernel_rfl
theorem tzs189 : tzs Try.prog 189 = [1, 0] := by kernel_rfl
theorem tf189_0 : tfield Try.prog 189 0 = some (0, 53) := by kernel_rfl
theorem tf189_1 : tfield Try.prog 189 1 = some (1, 2) := by kernel_rfl
theorem tpl189 : tplaces Try.prog 189 = some [(0, 1), (1, 1)] := by kernel_rfl
theorem tok209 : tok Try.prog 209 = true := by kernel_rfl
theorem tsz209 : tsz Try.prog 209 = 1 := by kernel_rfl
theorem tagg209 : tagg Try.prog 209 = false := by kernel_rfl
theorem tinfo209 : tinfo Try.prog 209 = some (1, 8) := by kernel_rfl
theorem tzc209 : tzc Try.prog 209 = some [.v (.int .u64 0)] := by kernel_rfl
theorem tzs209 : tzs Try.prog 209 = [0] := by kernel_rfl
theorem tund209 : Try.prog.underlying 209 = some (.int .u64) := by kernel_rfl
theorem tok214 : tok Try.prog 214 = true := by kernel_rfl
theorem tsz214 : tsz Try.prog 214 = 4 := by kernel_rfl
theorem tagg214 : tagg Try.prog 214 = true := by kernel_rfl
theorem tinfo214 : tinfo Try.prog 214 = some (4, 40) := by kernel_rfl
theorem tzc214 : tzc Try.prog 214 = some [.v (.pointer none), .v (.pointer none), .v (.pointer none), .v (.string ByteArray.empty)] := by kernel_rfl
theorem tzs214 : tzs Try.prog 214 = [0, 0, 0, 0] := by kernel_rfl
theorem tf214_0 : tfield Try.prog 214 0 = some (0, 17) := by kernel_rfl
theorem tf214_1 : tfield Try.prog 214 1 = some (1, 17) := by kernel_rfl
theorem tf214_2 : tfield Try.prog 214 2 = some (2, 17) := by kernel_rfl
theorem tf214_3 : tfield Try.prog 214 3 = some (3, 9) := by kernel_rfl
theorem tpl214 : tplaces Try.prog 214 = some [(0, 1), (1, 1), (2, 1), (3, 1)] := by kernel_rfl
theorem tok215 : tok Try.prog 215 = true := by kernel_rfl
theorem tsz215 : tsz Try.prog 215 = 4 := by kernel_rfl
theorem tagg215 : tagg Try.prog 215 = true := by kernel_rfl
theorem tinfo215 : tinfo Try.prog 215 = some (4, 40) := by kernel_rfl
theorem tzc215 : tzc Try.prog 215 = some [.v (.pointer none), .v (.pointer none), .v (.pointer none), .v (.string ByteArray.empty)] := by kernel_rfl
theorem tzs215 : tzs Try.prog 215 = [0, 0, 0, 0] := by kernel_rfl
theorem tf215_0 : tfield Try.prog 215 0 = some (0, 17) := by kernel_rfl
theorem tf215_1 : tfield Try.prog 215 1 = some (1, 17) := by kernel_rfl
theorem tf215_2 : tfield Try.prog 215 2 = some (2, 17) := by kernel_rfl
theorem tf215_3 : tfield Try.prog 215 3 = some (3, 9) := by kernel_rfl
theorem tpl215 : tplaces Try.prog 215 = some [(0, 1), (1, 1), (2, 1), (3, 1)] := by kernel_rfl
theorem tok217 : tok Try.prog 217 = true := by kernel_rfl
theorem tsz217 : tsz Try.prog 217 = 0 := by kernel_rfl
theorem tagg217 : tagg Try.prog 217 = true := by kernel_rfl
theorem tinfo217 : tinfo Try.prog 217 = some (0, 0) := by kernel_rfl
theorem tzc217 : tzc Try.prog 217 = some [] := by kernel_rfl
theorem tzs217 : tzs Try.prog 217 = [0] := by kernel_rfl
theorem tf217_0 : tfield Try.prog 217 0 = some (0, 216) := by kernel_rfl
theorem tok218 : tok Try.prog 218 = true := by kernel_rfl
theorem tsz218 : tsz Try.prog 218 = 0 := by kernel_rfl
theorem tagg218 : tagg Try.prog 218 = true := by kernel_rfl
theorem tinfo218 : tinfo Try.prog 218 = some (0, 0) := by kernel_rfl
theorem tzc218 : tzc Try.prog 218 = some [] := by kernel_rfl
theorem tzs218 : tzs Try.prog 218 = [0] := by kernel_rfl
theorem tf218_0 : tfield Try.prog 218 0 = some (0, 216) := by kernel_rfl
theorem tok220 : tok Try.prog 220 = true := by kernel_rfl
theorem tsz220 : tsz Try.prog 220 = 1 := by kernel_rfl
theorem tagg220 : tagg Try.prog 220 = false := by kernel_rfl
theorem tinfo220 : tinfo Try.prog 220 = some (1, 4) := by kernel_rfl
theorem tzc220 : tzc Try.prog 220 = some [.v (.int .u32 0)] := by kernel_rfl
theorem tzs220 : tzs Try.prog 220 = [0] := by kernel_rfl
theorem tund220 : Try.prog.underlying 220 = some (.int .u32) := by kernel_rfl
theorem tok221 : tok Try.prog 221 = true := by kernel_rfl
theorem tsz221 : tsz Try.prog 221 = 1 := by kernel_rfl
theorem tagg221 : tagg Try.prog 221 = false := by kernel_rfl
theorem tinfo221 : tinfo Try.prog 221 = some (1, 1) := by kernel_rfl
theorem tzc221 : tzc Try.prog 221 = some [.v (.int .u8 0)] := by kernel_rfl
theorem tzs221 : tzs Try.prog 221 = [0] := by kernel_rfl
theorem tund221 : Try.prog.underlying 221 = some (.int .u8) := by kernel_rfl
theorem tok222 : tok Try.prog 222 = true := by kernel_rfl
theorem tsz222 : tsz Try.prog 222 = 1 := by kernel_rfl
theorem tagg222 : tagg Try.prog 222 = false := by kernel_rfl
theorem tinfo222 : tinfo Try.prog 222 = some (1, 1) := by kernel_rfl
theorem tzc222 : tzc Try.prog 222 = some [.v (.int .u8 0)] := by kernel_rfl
theorem tzs222 : tzs Try.prog 222 = [0] := by kernel_rfl
theorem tund222 : Try.prog.underlying 222 = some (.int .u8) := by kernel_rfl
theorem tok224 : tok Try.prog 224 = true := by kernel_rfl
theorem tsz224 : tsz Try.prog 224 = 1 := by kernel_rfl
theorem tagg224 : tagg Try.prog 224 = false := by kernel_rfl
theorem tinfo224 : tinfo Try.prog 224 = some (1, 8) := by kernel_rfl
theorem tzc224 : tzc Try.prog 224 = some [.v (.pointer none)] := by kernel_rfl
theorem tzs224 : tzs Try.prog 224 = [0] := by kernel_rfl
theorem tok225 : tok Try.prog 225 = true := by kernel_rfl
theorem tsz225 : tsz Try.prog 225 = 1 := by kernel_rfl
theorem tagg225 : tagg Try.prog 225 = false := by kernel_rfl
theorem tinfo225 : tinfo Try.prog 225 = some (1, 4) := by kernel_rfl
theorem tzc225 : tzc Try.prog 225 = some [.v (.int .i32 0)] := by kernel_rfl
theorem tzs225 : tzs Try.prog 225 = [0] := by kernel_rfl
theorem tund225 : Try.prog.underlying 225 = some (.int .i32) := by kernel_rfl
theorem tok226 : tok Try.prog 226 = true := by kernel_rfl
theorem tsz226 : tsz Try.prog 226 = 1 := by kernel_rfl
theorem tagg226 : tagg Try.prog 226 = false := by kernel_rfl
theorem tinfo226 : tinfo Try.prog 226 = some (1, 4) := by kernel_rfl
theorem tzc226 : tzc Try.prog 226 = some [.v (.int .i32 0)] := by kernel_rfl
theorem tzs226 : tzs Try.prog 226 = [0] := by kernel_rfl
theorem tund226 : Try.prog.underlying 226 = some (.int .i32) := by kernel_rfl
theorem tok227 : tok Try.prog 227 = true := by kernel_rfl
theorem tsz227 : tsz Try.prog 227 = 11 := by kernel_rfl
theorem tagg227 : tagg Try.prog 227 = true := by kernel_rfl
theorem tinfo227 : tinfo Try.prog 227 = some (11, 48) := by kernel_rfl
theorem tzc227 : tzc Try.prog 227 = some [.v (.int .u64 0), .v (.int .u64 0), .v (.int .u32 0), .v (.int .u8 0), .v (.int .u8 0), .v (.int .u8 0), .v (.int .u8 0), .v (.nilFunc), .v (.pointer none), .v (.int .i32 0), .v (.int .i32 0)] := by kernel_rfl
theorem tzs227 : tzs Try.prog 227 = [0, 0, 0, 0, 0, 0, 0, 0, 0, 0, 0] := by kernel_rfl
theorem tf227_0 : tfield Try.prog 227 0 = some (0, 12) := by kernel_rfl
theorem tf227_1 : tfield Try.prog 227 1 = some (1, 12) := by kernel_rfl
theorem tf227_2 : tfield Try.prog 227 2 = some (2, 220) := by kernel_rfl
theorem tf227_3 : tfield Try.prog 227 3 = some (3, 221) := by kernel_rfl
theorem tf227_4 : tfield Try.prog 227 4 = some (4, 5) := by kernel_rfl
theorem tf227_5 : tfield Try.prog 227 5 = some (5, 5) := by kernel_rfl
theorem tf227_6 : tfield Try.prog 227 6 = some (6, 222) := by kernel_rfl
theorem tf227_7 : tfield Try.prog 227 7 = some (7, 223) := by kernel_rfl
theorem tf227_8 : tfield Try.prog 227 8 = some (8, 224) := by kernel_rfl
theorem tf227_9 : tfield Try.prog 227 9 = some (9, 225) := by kernel_rfl
theorem tf227_10 : tfield Try.prog 227 10 = some (10, 226) := by kernel_rfl
theorem tok228 : tok Try.prog 228 = true := by kernel_rfl
theorem tsz228 : tsz Try.prog 228 = 11 := by kernel_rfl
theorem tagg228 : tagg Try.prog 228 = true := by kernel_rfl
theorem tinfo228 : tinfo Try.prog 228 = some (11, 48) := by kernel_rfl
theorem tzc228 : tzc Try.prog 228 = some [.v (.int .u64 0), .v (.int .u64 0), .v (.int .u32 0), .v (.int .u8 0), .v (.int .u8 0), .v (.int .u8 0), .v (.int .u8 0), .v (.nilFunc), .v (.pointer none), .v (.int .i32 0), .v (.int .i32 0)] := by kernel_rfl
theorem tzs228 : tzs Try.prog 228 = [0, 0, 0, 0, 0, 0, 0, 0, 0, 0, 0] := by kernel_rfl
theorem tf228_0 : tfield Try.prog 228 0 = some (0, 12) := by kernel_rfl
theorem tf228_1 : tfield Try.prog 228 1 = some (1, 12) := by kernel_rfl
theorem tf228_2 : tfield Try.prog 228 2 = some (2, 220) := by kernel_rfl
theorem tf228_3 : tfield Try.prog 228 3 = some (3, 221) := by kernel_rfl
theorem tf228_4 : tfield Try.prog 228 4 = some (4, 5) := by kernel_rfl
theorem tf228_5 : tfield Try.prog 228 5 = some (5, 5) := by kernel_rfl
theorem tf228_6 : tfield Try.prog 228 6 = some (6, 222) := by kernel_rfl
theorem tf228_7 : tfield Try.prog 228 7 = some (7, 223) := by kernel_rfl
theorem tf228_8 : tfield Try.prog 228 8 = some (8, 224) := by kernel_rfl
theorem tf228_9 : tfield Try.prog 228 9 = some (9, 225) := by kernel_rfl
theorem tf228_10 : tfield Try.prog 228 10 = some (10, 226) := by kernel_rfl
theorem tfn2 : tfunc Try.prog 2 = true := by unfold tfunc; rw [Try.func2]; rfl
theorem tfn3 : tfunc Try.prog 3 = true := by unfold tfunc; rw [Try.func3]; rfl
theorem tfn4 : tfunc Try.prog 4 = true := by unfold tfunc; rw [Try.func4]; rfl
theorem tfn5 : tfunc Try.prog 5 = true := by unfold tfunc; rw [Try.func5]; rfl
theorem tfn6 : tfunc Try.prog 6 = true := by unfold tfunc; rw [Try.func6]; rfl
theorem tfn7 : tfunc Try.prog 7 = true := by unfold tfunc; rw [Try.func7]; rfl
theorem tfn8 : tfunc Try.prog 8 = true := by unfold tfunc; rw [Try.func8]; rfl
theorem tfn9 : tfunc Try.prog 9 = true := by unfold tfunc; rw [Try.func9]; rfl
theorem tfn10 : tfunc Try.prog 10 = true := by unfold tfunc; rw [Try.func10]; rfl
theorem tfn11 : tfunc Try.prog 11 = true := by unfold tfunc; rw [Try.func11]; rfl
theorem tfn12 : tfunc Try.prog 12 = true := by unfold tfunc; rw [Try.func12]; rfl
theorem tfn13 : tfunc Try.prog 13 = true := by unfold tfunc; rw [Try.func13]; rfl
theorem tfn14 : tfunc Try.prog 14 = true := by unfold tfunc; rw [Try.func14]; rfl
theorem tfn15 : tfunc Try.prog 15 = true := by unfold tfunc; rw [Try.func15]; rfl
theorem tfn16 : tfunc Try.prog 16 = true := by unfold tfunc; rw [Try.func16]; rfl
theorem tfn17 : tfunc Try.prog 17 = true := by unfold tfunc; rw [Try.func17]; rfl
theorem tfn18 : tfunc Try.prog 18 = true := by unfold tfunc; rw [Try.func18]; rfl
theorem tfn19 : tfunc Try.prog 19 = true := by unfold tfunc; rw [Try.func19]; rfl
theorem tfn20 : tfunc Try.prog 20 = true := by unfold tfunc; rw [Try.func20]; rfl
theorem tfn21 : tfunc Try.prog 21 = true := by unfold tfunc; rw [Try.func21]; rfl
theorem tfn22 : tfunc Try.prog 22 = true := by unfold tfunc; rw [Try.func22]; rfl
theorem tfn23 : tfunc Try.prog 23 = true := by unfold tfunc; rw [Try.func23]; rfl
theorem tfn24 : tfunc Try.prog 24 = true := by unfold tfunc; rw [Try.func24]; rfl
theorem tfn25 : tfunc Try.prog 25 = true := by unfold tfunc; rw [Try.func25]; rfl
theorem tfn26 : tfunc Try.prog 26 = true := by unfold tfunc; rw [Try.func26]; rfl
theorem tfn27 : tfunc Try.prog 27 = true := by unfold tfunc; rw [Try.func27]; rfl
theorem tfn28 : tfunc Try.prog 28 = true := by unfold tfunc; rw [Try.func28]; rfl
theorem tfn29 : tfunc Try.prog 29 = true := by unfold tfunc; rw [Try.func29]; rfl
theorem tfn30 : tfunc Try.prog 30 = true := by unfold tfunc; rw [Try.func30]; rfl
theorem tfn31 : tfunc Try.prog 31 = true := by unfold tfunc; rw [Try.func31]; rfl
theorem tfn32 : tfunc Try.prog 32 = true := by unfold tfunc; rw [Try.func32]; rfl
theorem tfn33 : tfunc Try.prog 33 = true := by unfold tfunc; rw [Try.func33]; rfl
theorem tfn34 : tfunc Try.prog 34 = true := by unfold tfunc; rw [Try.func34]; rfl
theorem tfn35 : tfunc Try.prog 35 = true := by unfold tfunc; rw [Try.func35]; rfl
theorem tfn36 : tfunc Try.prog 36 = true := by unfold tfunc; rw [Try.func36]; rfl
theorem tfn37 : tfunc Try.prog 37 = true := by unfold tfunc; rw [Try.func37]; rfl
theorem tfn38 : tfunc Try.prog 38 = true := by unfold tfunc; rw [Try.func38]; rfl
theorem tfn39 : tfunc Try.prog 39 = true := by unfold tfunc; rw [Try.func39]; rfl
theorem tfn40 : tfunc Try.prog 40 = true := by unfold tfunc; rw [Try.func40]; rfl
theorem tfn41 : tfunc Try.prog 41 = true := by unfold tfunc; rw [Try.func41]; rfl
theorem tfn42 : tfunc Try.prog 42 = true := by unfold tfunc; rw [Try.func42]; rfl
theorem tfn43 : tfunc Try.prog 43 = true := by unfold tfunc; rw [Try.func43]; rfl
theorem tfn44 : tfunc Try.prog 44 = true := by unfold tfunc; rw [Try.func44]; rfl
theorem tfn45 : tfunc Try.prog 45 = true := by unfold tfunc; rw [Try.func45]; rfl
theorem tfn46 : tfunc Try.prog 46 = true := by unfold tfunc; rw [Try.func46]; rfl
theorem tfn47 : tfunc Try.prog 47 = true := by unfold tfunc; rw [Try.func47]; rfl
theorem tfn48 : tfunc Try.prog 48 = true := by unfold tfunc; rw [Try.func48]; rfl
theorem tfn49 : tfunc Try.prog 49 = true := by unfold tfunc; rw [Try.func49]; rfl
theorem tfn50 : tfunc Try.prog 50 = true := by unfold tfunc; rw [Try.func50]; rfl
theorem tfn51 : tfunc Try.prog 51 = true := by unfold tfunc; rw [Try.func51]; rfl
theorem tfn52 : tfunc Try.prog 52 = true := by unfold tfunc; rw [Try.func52]; rfl
theorem tfn53 : tfunc Try.prog 53 = true := by unfold tfunc; rw [Try.func53]; rfl
theorem tfn54 : tfunc Try.prog 54 = true := by unfold tfunc; rw [Try.func54]; rfl
theorem tfn55 : tfunc Try.prog 55 = true := by unfold tfunc; rw [Try.func55]; rfl
theorem tfn56 : tfunc Try.prog 56 = true := by unfold tfunc; rw [Try.func56]; rfl
theorem tfn57 : tfunc Try.prog 57 = true := by unfold tfunc; rw [Try.func57]; rfl
theorem tfn58 : tfunc Try.prog 58 = true := by unfold tfunc; rw [Try.func58]; rfl
theorem tfn59 : tfunc Try.prog 59 = true := by unfold tfunc; rw [Try.func59]; rfl
theorem tfn60 : tfunc Try.prog 60 = true := by unfold tfunc; rw [Try.func60]; rfl
theorem tfn61 : tfunc Try.prog 61 = true := by unfold tfunc; rw [Try.func61]; rfl
theorem tfn62 : tfunc Try.prog 62 = true := by unfold tfunc; rw [Try.func62]; rfl
theorem tfn63 : tfunc Try.prog 63 = true := by unfold tfunc; rw [Try.func63]; rfl
theorem tfn64 : tfunc Try.prog 64 = true := by unfold tfunc; rw [Try.func64]; rfl
theorem tfn65 : tfunc Try.prog 65 = true := by unfold tfunc; rw [Try.func65]; rfl
theorem tfn66 : tfunc Try.prog 66 = true := by unfold tfunc; rw [Try.func66]; rfl
theorem tfn67 : tfunc Try.prog 67 = true := by unfold tfunc; rw [Try.func67]; rfl
theorem tfn68 : tfunc Try.prog 68 = true := by unfold tfunc; rw [Try.func68]; rfl
theorem tfn69 : tfunc Try.prog 69 = true := by unfold tfunc; rw [Try.func69]; rfl
theorem tfn70 : tfunc Try.prog 70 = true := by unfold tfunc; rw [Try.func70]; rfl
theorem tfn71 : tfunc Try.prog 71 = true := by unfold tfunc; rw [Try.func71]; rfl
theorem tfn72 : tfunc Try.prog 72 = true := by unfold tfunc; rw [Try.func72]; rfl
theorem tfn73 : tfunc Try.prog 73 = true := by unfold tfunc; rw [Try.func73]; rfl
theorem tfn74 : tfunc Try.prog 74 = true := by unfold tfunc; rw [Try.func74]; rfl
theorem tfn75 : tfunc Try.prog 75 = true := by unfold tfunc; rw [Try.func75]; rfl
theorem tfn76 : tfunc Try.prog 76 = true := by unfold tfunc; rw [Try.func76]; rfl
theorem tfn77 : tfunc Try.prog 77 = true := by unfold tfunc; rw [Try.func77]; rfl
theorem tfn78 : tfunc Try.prog 78 = true := by unfold tfunc; rw [Try.func78]; rfl
theorem tfn79 : tfunc Try.prog 79 = true := by unfold tfunc; rw [Try.func79]; rfl
theorem tfn80 : tfunc Try.prog 80 = true := by unfold tfunc; rw [Try.func80]; rfl
theorem tfn81 : tfunc Try.prog 81 = true := by unfold tfunc; rw [Try.func81]; rfl
theorem tfn82 : tfunc Try.prog 82 = true := by unfold tfunc; rw [Try.func82]; rfl
theorem tfn83 : tfunc Try.prog 83 = true := by unfold tfunc; rw [Try.func83]; rfl
theorem tfn84 : tfunc Try.prog 84 = true := by unfold tfunc; rw [Try.func84]; rfl
theorem tfn85 : tfunc Try.prog 85 = true := by unfold tfunc; rw [Try.func85]; rfl
theorem tfn86 : tfunc Try.prog 86 = true := by unfold tfunc; rw [Try.func86]; rfl
theorem tfn87 : tfunc Try.prog 87 = true := by unfold tfunc; rw [Try.func87]; rfl
theorem tfn88 : tfunc Try.prog 88 = true := by unfold tfunc; rw [Try.func88]; rfl
theorem tfn89 : tfunc Try.prog 89 = true := by unfold tfunc; rw [Try.func89]; rfl
theorem tfn90 : tfunc Try.prog 90 = true := by unfold tfunc; rw [Try.func90]; rfl
theorem tfn91 : tfunc Try.prog 91 = true := by unfold tfunc; rw [Try.func91]; rfl
theorem tfn92 : tfunc Try.prog 92 = true := by unfold tfunc; rw [Try.func92]; rfl
theorem tfn93 : tfunc Try.prog 93 = true := by unfold tfunc; rw [Try.func93]; rfl
theorem tfn94 : tfunc Try.prog 94 = true := by unfold tfunc; rw [Try.func94]; rfl
theorem tfn95 : tfunc Try.prog 95 = true := by unfold tfunc; rw [Try.func95]; rfl
theorem tfn96 : tfunc Try.prog 96 = true := by unfold tfunc; rw [Try.func96]; rfl
theorem tfn97 : tfunc Try.prog 97 = true := by unfold tfunc; rw [Try.func97]; rfl
theorem tfn98 : tfunc Try.prog 98 = true := by unfold tfunc; rw [Try.func98]; rfl
theorem tfn99 : tfunc Try.prog 99 = true := by unfold tfunc; rw [Try.func99]; rfl
theorem tfn100 : tfunc Try.prog 100 = true := by unfold tfunc; rw [Try.func100]; rfl
theorem tfn101 : tfunc Try.prog 101 = true := by unfold tfunc; rw [Try.func101]; rfl
theorem tfn102 : tfunc Try.prog 102 = true := by unfold tfunc; rw [Try.func102]; rfl
theorem tfn103 : tfunc Try.prog 103 = true := by unfold tfunc; rw [Try.func103]; rfl
theorem tfn104 : tfunc Try.prog 104 = true := by unfold tfunc; rw [Try.func104]; rfl
theorem tfn105 : tfunc Try.prog 105 = true := by unfold tfunc; rw [Try.func105]; rfl
theorem tfn106 : tfunc Try.prog 106 = true := by unfold tfunc; rw [Try.func106]; rfl
theorem tfn107 : tfunc Try.prog 107 = true := by unfold tfunc; rw [Try.func107]; rfl
theorem tfn108 : tfunc Try.prog 108 = true := by unfold tfunc; rw [Try.func108]; rfl
theorem tfn109 : tfunc Try.prog 109 = true := by unfold tfunc; rw [Try.func109]; rfl
theorem tfn110 : tfunc Try.prog 110 = true := by unfold tfunc; rw [Try.func110]; rfl
theorem tfn111 : tfunc Try.prog 111 = true := by unfold tfunc; rw [Try.func111]; rfl
theorem tfn112 : tfunc Try.prog 112 = true := by unfold tfunc; rw [Try.func112]; rfl
theorem tfn113 : tfunc Try.prog 113 = true := by unfold tfunc; rw [Try.func113]; rfl
theorem tfn114 : tfunc Try.prog 114 = true := by unfold tfunc; rw [Try.func114]; rfl
theorem tfn115 : tfunc Try.prog 115 = true := by unfold tfunc; rw [Try.func115]; rfl
theorem tfn116 : tfunc Try.prog 116 = true := by unfold tfunc; rw [Try.func116]; rfl
theorem tfn117 : tfunc Try.prog 117 = true := by unfold tfunc; rw [Try.func117]; rfl
theorem tfn118 : tfunc Try.prog 118 = true := by unfold tfunc; rw [Try.func118]; rfl
theorem tfn119 : tfunc Try.prog 119 = true := by unfold tfunc; rw [Try.func119]; rfl
theorem tfn120 : tfunc Try.prog 120 = true := by unfold tfunc; rw [Try.func120]; rfl
theorem tfn121 : tfunc Try.prog 121 = true := by unfold tfunc; rw [Try.func121]; rfl
theorem tfn122 : tfunc Try.prog 122 = true := by unfold tfunc; rw [Try.func122]; rfl
theorem tfn123 : tfunc Try.prog 123 = true := by unfold tfunc; rw [Try.func123]; rfl
theorem tfn124 : tfunc Try.prog 124 = true := by unfold tfunc; rw [Try.func124]; rfl
theorem tfn125 : tfunc Try.prog 125 = true := by unfold tfunc; rw [Try.func125]; rfl
theorem tfn126 : tfunc Try.prog 126 = true := by unfold tfunc; rw [Try.func126]; rfl
theorem tfn127 : tfunc Try.prog 127 = true := by unfold tfunc; rw [Try.func127]; rfl
theorem tfn128 : tfunc Try.prog 128 = true := by unfold tfunc; rw [Try.func128]; rfl
theorem tfn129 : tfunc Try.prog 129 = true := by unfold tfunc; rw [Try.func129]; rfl
theorem tfn130 : tfunc Try.prog 130 = true := by unfold tfunc; rw [Try.func130]; rfl
theorem tfn131 : tfunc Try.prog 131 = true := by unfold tfunc; rw [Try.func131]; rfl
theorem tfn132 : tfunc Try.prog 132 = true := by unfold tfunc; rw [Try.func132]; rfl
theorem tfn133 : tfunc Try.prog 133 = true := by unfold tfunc; rw [Try.func133]; rfl
theorem tfn134 : tfunc Try.prog 134 = true := by unfold tfunc; rw [Try.func134]; rfl
theorem tfn135 : tfunc Try.prog 135 = true := by unfold tfunc; rw [Try.func135]; rfl
theorem tfn136 : tfunc Try.prog 136 = true := by unfold tfunc; rw [Try.func136]; rfl
theorem tfn137 : tfunc Try.prog 137 = true := by unfold tfunc; rw [Try.func137]; rfl
theorem tfn138 : tfunc Try.prog 138 = true := by unfold tfunc; rw [Try.func138]; rfl
theorem tfn139 : tfunc Try.prog 139 = true := by unfold tfunc; rw [Try.func139]; rfl
theorem tfn140 : tfunc Try.prog 140 = true := by unfold tfunc; rw [Try.func140]; rfl
theorem tfn141 : tfunc Try.prog 141 = true := by unfold tfunc; rw [Try.func141]; rfl
theorem tfn142 : tfunc Try.prog 142 = true := by unfold tfunc; rw [Try.func142]; rfl
theorem tfn143 : tfunc Try.prog 143 = true := by unfold tfunc; rw [Try.func143]; rfl
theorem tfn144 : tfunc Try.prog 144 = true := by unfold tfunc; rw [Try.func144]; rfl
theorem tfn145 : tfunc Try.prog 145 = true := by unfold tfunc; rw [Try.func145]; rfl
theorem tfn146 : tfunc Try.prog 146 = true := by unfold tfunc; rw [Try.func146]; rfl
theorem tfn147 : tfunc Try.prog 147 = true := by unfold tfunc; rw [Try.func147]; rfl
theorem tfn148 : tfunc Try.prog 148 = true := by unfold tfunc; rw [Try.func148]; rfl
theorem tfn149 : tfunc Try.prog 149 = true := by unfold tfunc; rw [Try.func149]; rfl
theorem tfn150 : tfunc Try.prog 150 = true := by unfold tfunc; rw [Try.func150]; rfl
theorem tfn151 : tfunc Try.prog 151 = true := by unfold tfunc; rw [Try.func151]; rfl
theorem tfn152 : tfunc Try.prog 152 = true := by unfold tfunc; rw [Try.func152]; rfl
theorem tfn153 : tfunc Try.prog 153 = true := by unfold tfunc; rw [Try.func153]; rfl
theorem tfn154 : tfunc Try.prog 154 = true := by unfold tfunc; rw [Try.func154]; rfl
theorem tfn155 : tfunc Try.prog 155 = true := by unfold tfunc; rw [Try.func155]; rfl
theorem tfn156 : tfunc Try.prog 156 = true := by unfold tfunc; rw [Try.func156]; rfl
theorem tfn157 : tfunc Try.prog 157 = true := by unfold tfunc; rw [Try.func157]; rfl
theorem tfn158 : tfunc Try.prog 158 = true := by unfold tfunc; rw [Try.func158]; rfl
theorem tfn159 : tfunc Try.prog 159 = true := by unfold tfunc; rw [Try.func159]; rfl
theorem tfn160 : tfunc Try.prog 160 = true := by unfold tfunc; rw [Try.func160]; rfl
theorem tfn161 : tfunc Try.prog 161 = true := by unfold tfunc; rw [Try.func161]; rfl
theorem tfn162 : tfunc Try.prog 162 = true := by unfold tfunc; rw [Try.func162]; rfl
theorem tfn163 : tfunc Try.prog 163 = true := by unfold tfunc; rw [Try.func163]; rfl
theorem tfn164 : tfunc Try.prog 164 = true := by unfold tfunc; rw [Try.func164]; rfl
theorem tfn165 : tfunc Try.prog 165 = true := by unfold tfunc; rw [Try.func165]; rfl
theorem tfn166 : tfunc Try.prog 166 = true := by unfold tfunc; rw [Try.func166]; rfl
theorem tfn167 : tfunc Try.prog 167 = true := by unfold tfunc; rw [Try.func167]; rfl
theorem tfn168 : tfunc Try.prog 168 = true := by unfold tfunc; rw [Try.func168]; rfl
theorem tfn169 : tfunc Try.prog 169 = true := by unfold tfunc; rw [Try.func169]; rfl
theorem tfn170 : tfunc Try.prog 170 = true := by unfold tfunc; rw [Try.func170]; rfl
theorem tfn171 : tfunc Try.prog 171 = true := by unfold tfunc; rw [Try.func171]; rfl
theorem tfn172 : tfunc Try.prog 172 = true := by unfold tfunc; rw [Try.func172]; rfl
theorem tfn173 : tfunc Try.prog 173 = true := by unfold tfunc; rw [Try.func173]; rfl
theorem tfn174 : tfunc Try.prog 174 = true := by unfold tfunc; rw [Try.func174]; rfl
theorem tfn175 : tfunc Try.prog 175 = true := by unfold tfunc; rw [Try.func175]; rfl
theorem tfn176 : tfunc Try.prog 176 = true := by unfold tfunc; rw [Try.func176]; rfl
theorem tfn177 : tfunc Try.prog 177 = true := by unfold tfunc; rw [Try.func177]; rfl
theorem tfn178 : tfunc Try.prog 178 = true := by unfold tfunc; rw [Try.func178]; rfl
theorem tfn179 : tfunc Try.prog 179 = true := by unfold tfunc; rw [Try.func179]; rfl
theorem tfn180 : tfunc Try.prog 180 = true := by unfold tfunc; rw [Try.func180]; rfl
theorem tfn181 : tfunc Try.prog 181 = true := by unfold tfunc; rw [Try.func181]; rfl
theorem tfn182 : tfunc Try.prog 182 = true := by unfold tfunc; rw [Try.func182]; rfl
theorem tfn183 : tfunc Try.prog 183 = true := by unfold tfunc; rw [Try.func183]; rfl
theorem tfn184 : tfunc Try.prog 184 = true := by unfold tfunc; rw [Try.func184]; rfl
theorem tfn185 : tfunc Try.prog 185 = true := by unfold tfunc; rw [Try.func185]; rfl
theorem tfn186 : tfunc Try.prog 186 = true := by unfold tfunc; rw [Try.func186]; rfl
theorem tfn187 : tfunc Try.prog 187 = true := by unfold tfunc; rw [Try.func187]; rfl
theorem tfn188 : tfunc Try.prog 188 = true := by unfold tfunc; rw [Try.func188]; rfl
theorem tfn189 : tfunc Try.prog 189 = true := by unfold tfunc; rw [Try.func189]; rfl
theorem tfn190 : tfunc Try.prog 190 = true := by unfold tfunc; rw [Try.func190]; rfl
attribute [simp] tok2 tsz2 tagg2 tinfo2 tzc2 tzs2 tund2 tok3 tsz3 tagg3 tinfo3 tzc3 tzs3 tund3 tok4 tsz4 tagg4 tinfo4 tzc4 tzs4 tok5 tsz5 tagg5 tinfo5 tzc5 tzs5 tund5 tok6 tsz6 tagg6 tinfo6 tzc6 tzs6 tund6 tok22 tsz22 tagg22 tinfo22 tzc22 tzs22 tel22 tok23 tsz23 tagg23 tinfo23 tzc23 tzs23 tel23 tok24 tsz24 tagg24 tinfo24 tzc24 tzs24 tel24 tok25 tsz25 tagg25 tinfo25 tzc25 tzs25 tf25_0 tf25_1 tf25_2 tf25_3 tf25_4 tpl25 tok26 tsz26 tagg26 tinfo26 tzc26 tzs26 tf26_0 tf26_1 tf26_2 tf26_3 tf26_4 tpl26 tok29 tsz29 tagg29 tinfo29 tzc29 tzs29 tel29 tok30 tsz30 tagg30 tinfo30 tzc30 tzs30 tel30 tok31 tsz31 tagg31 tinfo31 tzc31 tzs31 tf31_0 tf31_1 tf31_2 tf31_3 tf31_4 tpl31 tok32 tsz32 tagg32 tinfo32 tzc32 tzs32 tf32_0 tf32_1 tf32_2 tf32_3 tf32_4 tpl32 tok36 tsz36 tagg36 tinfo36 tzc36 tzs36 tel36 tok37 tsz37 tagg37 tinfo37 tzc37 tzs37 tel37 tok38 tsz38 tagg38 tinfo38 tzc38 tzs38 tf38_0 tf38_1 tpl38 tok39 tsz39 tagg39 tinfo39 tzc39 tzs39 tf39_0 tf39_1 tpl39 tok41 tsz41 tagg41 tinfo41 tzc41 tzs41 tel41 tok42 tsz42 tagg42 tinfo42 tzc42 tzs42 tf42_0 tf42_1 tpl42 tok43 tsz43 tagg43 tinfo43 tzc43 tzs43 tf43_0 tf43_1 tpl43 tok44 tsz44 tagg44 tinfo44 tzc44 tzs44 tf44_0 tf44_1 tpl44 tok45 tsz45 tagg45 tinfo45 tzc45 tzs45 tf45_0 tf45_1 tpl45 tok53 tsz53 tagg53 tinfo53 tzc53 tzs53 tel53 tok55 tsz55 tagg55 tinfo55 tzc55 tzs55 tf55_0 tf55_1 tpl55 tok56 tsz56 tagg56 tinfo56 tzc56 tzs56 tf56_0 tf56_1 tpl56 tok57 tsz57 tagg57 tinfo57 tzc57 tzs57 tf57_0 tf57_1 tf57_2 tf57_3 tf57_4 tf57_5 tf57_6 tf57_7 tpl57 tok58 tsz58 tagg58 tinfo58 tzc58 tzs58 tf58_0 tf58_1 tf58_2 tf58_3 tf58_4 tf58_5 tf58_6 tf58_7 tpl58 tok61 tsz61 tagg61 tinfo61 tzc61 tzs61 tf61_0 tf61_1 tf61_2 tpl61 tok62 tsz62 tagg62 tinfo62 tzc62 tzs62 tf62_0 tf62_1 tf62_2 tpl62 tok64 tsz64 tagg64 tinfo64 tzc64 tzs64 tel64 tok65 tsz65 tagg65 tinfo65 tzc65 tzs65 tf65_0 tf65_1 tf65_2 tpl65 tok66 tsz66 tagg66 tinfo66 tzc66 tzs66 tf66_0 tf66_1 tf66_2 tpl66 tok68 tsz68 tagg68 tinfo68 tzc68 tzs68 tf68_0 tf68_1 tpl68 tok69 tsz69 tagg69 tinfo69 tzc69 tzs69 tf69_0 tf69_1 tpl69 tok74 tsz74 tagg74 tinfo74 tzc74 tzs74 tf74_0 tf74_1 tpl74 tok75 tsz75 tagg75 tinfo75 tzc75 tzs75 tf75_0 tf75_1 tf75_2 tf75_3 tf75_4 tf75_5 tf75_6 tf75_7 tpl75 tok94 tsz94 tagg94 tinfo94 tzc94 tzs94 tf94_0 tf94_1 tf94_2 tpl94 tok95 tsz95 tagg95 tinfo95 tzc95 tzs95 tf95_0 tf95_1 tf95_2 tpl95 tok99 tsz99 tagg99 tinfo99 tzc99 tzs99 tf99_0 tf99_1 tpl99 tok100 tsz100 tagg100 tinfo100 tzc100 tzs100 tf100_0 tf100_1 tpl100 tok106 tsz106 tagg106 tinfo106 tzc106 tzs106 tf106_0 tf106_1 tpl106 tok107 tsz107 tagg107 tinfo107 tzc107 tzs107 tf107_0 tf107_1 tpl107 tok114 tsz114 tagg114 tinfo114 tzc114 tzs114 tf114_0 tf114_1 tf114_2 tpl114 tok115 tsz115 tagg115 tinfo115 tzc115 tzs115 tf115_0 tf115_1 tf115_2 tpl115 tok127 tsz127 tagg127 tinfo127 tzc127 tzs127 tok131 tsz131 tagg131 tinfo131 tzc131 tzs131 tf131_0 tf131_1 tf131_2 tf131_3 tf131_4 tf131_5 tpl131 tok132 tsz132 tagg132 tinfo132 tzc132 tzs132 tf132_0 tf132_1 tf132_2 tf132_3 tf132_4 tf132_5 tpl132 tok133 tsz133 tagg133 tinfo133 tzc133 tzs133 tel133 tok145 tsz145 tagg145 tinfo145 tzc145 tzs145 tok157 tsz157 tagg157 tinfo157 tzc157 tzs157 tok161 tsz161 tagg161 tinfo161 tzc161 tzs161 tf161_0 tf161_1 tf161_2 tpl161 tok162 tsz162 tagg162 tinfo162 tzc162 tzs162 tf162_0 tf162_1 tf162_2 tpl162 tok171 tsz171 tagg171 tinfo171 tzc171 tzs171 tf171_0 tf171_1 tpl171 tok172 tsz172 tagg172 tinfo172 tzc172 tzs172 tf172_0 tf172_1 tpl172 tok176 tsz176 tagg176 tinfo176 tzc176 tzs176 tf176_0 tf176_1 tf176_2 tf176_3 tf176_4 tf176_5 tpl176 tok177 tsz177 tagg177 tinfo177 tzc177 tzs177 tf177_0 tf177_1 tf177_2 tf177_3 tf177_4 tf177_5 tpl177 tok179 tsz179 tagg179 tinfo179 tzc179 tzs179 tf179_0 tf179_1 tpl179 tok185 tsz185 tagg185 tinfo185 tzc185 tzs185 tf185_0 tf185_1 tf185_2 tpl185 tok188 tsz188 tagg188 tinfo188 tzc188 tzs188 tf188_0 tf188_1 tpl188 tok189 tsz189 tagg189 tinfo189 tzc189 tzs189 tf189_0 tf189_1 tpl189 tok209 tsz209 tagg209 tinfo209 tzc209 tzs209 tund209 tok214 tsz214 tagg214 tinfo214 tzc214 tzs214 tf214_0 tf214_1 tf214_2 tf214_3 tpl214 tok215 tsz215 tagg215 tinfo215 tzc215 tzs215 tf215_0 tf215_1 tf215_2 tf215_3 tpl215 tok217 tsz217 tagg217 tinfo217 tzc217 tzs217 tf217_0 tok218 tsz218 tagg218 tinfo218 tzc218 tzs218 tf218_0 tok220 tsz220 tagg220 tinfo220 tzc220 tzs220 tund220 tok221 tsz221 tagg221 tinfo221 tzc221 tzs221 tund221 tok222 tsz222 tagg222 tinfo222 tzc222 tzs222 tund222 tok224 tsz224 tagg224 tinfo224 tzc224 tzs224 tok225 tsz225 tagg225 tinfo225 tzc225 tzs225 tund225 tok226 tsz226 tagg226 tinfo226 tzc226 tzs226 tund226 tok227 tsz227 tagg227 tinfo227 tzc227 tzs227 tf227_0 tf227_1 tf227_2 tf227_3 tf227_4 tf227_5 tf227_6 tf227_7 tf227_8 tf227_9 tf227_10 tok228 tsz228 tagg228 tinfo228 tzc228 tzs228 tf228_0 tf228_1 tf228_2 tf228_3 tf228_4 tf228_5 tf228_6 tf228_7 tf228_8 tf228_9 tf228_10 tfn2 tfn3 tfn4 tfn5 tfn6 tfn7 tfn8 tfn9 tfn10 tfn11 tfn12 tfn13 tfn14 tfn15 tfn16 tfn17 tfn18 tfn19 tfn20 tfn21 tfn22 tfn23 tfn24 tfn25 tfn26 tfn27 tfn28 tfn29 tfn30 tfn31 tfn32 tfn33 tfn34 tfn35 tfn36 tfn37 tfn38 tfn39 tfn40 tfn41 tfn42 tfn43 tfn44 tfn45 tfn46 tfn47 tfn48 tfn49 tfn50 tfn51 tfn52 tfn53 tfn54 tfn55 tfn56 tfn57 tfn58 tfn59 tfn60 tfn61 tfn62 tfn63 tfn64 tfn65 tfn66 tfn67 tfn68 tfn69 tfn70 tfn71 tfn72 tfn73 tfn74 tfn75 tfn76 tfn77 tfn78 tfn79 tfn80 tfn81 tfn82 tfn83 tfn84 tfn85 tfn86 tfn87 tfn88 tfn89 tfn90 tfn91 tfn92 tfn93 tfn94 tfn95 tfn96 tfn97 tfn98 tfn99 tfn100 tfn101 tfn102 tfn103 tfn104 tfn105 tfn106 tfn107 tfn108 tfn109 tfn110 tfn111 tfn112 tfn113 tfn114 tfn115 tfn116 tfn117 tfn118 tfn119 tfn120 tfn121 tfn122 tfn123 tfn124 tfn125 tfn126 tfn127 tfn128 tfn129 tfn130 tfn131 tfn132 tfn133 tfn134 tfn135 tfn136 tfn137 tfn138 tfn139 tfn140 tfn141 tfn142 tfn143 tfn144 tfn145 tfn146 tfn147 tfn148 tfn149 tfn150 tfn151 tfn152 tfn153 tfn154 tfn155 tfn156 tfn157 tfn158 tfn159 tfn160 tfn161 tfn162 tfn163 tfn164 tfn165 tfn166 tfn167 tfn168 tfn169 tfn170 tfn171 tfn172 tfn173 tfn174 tfn175 tfn176 tfn177 tfn178 tfn179 tfn180 tfn181 tfn182 tfn183 tfn184 tfn185 tfn186 tfn187 tfn188 tfn189 tfn190
end Go.Proofs.Ythejobdlfomcjaa.Ty

namespace Go.Proofs.Ythejobdlfomcjaa
open Go Go.Px Go.RowKit Go.Proofs
set_option linter.unnecessarySimpa false
set_option linter.unusedVariables false
set_option linter.unusedSimpArgs false
set_option maxRecDepth 100000
attribute [-simp] Int.not_le Int.not_lt

def okByteS (B : Nat) (r : List Cell) : Prop := ∃ c0, r = [.own 1 c0] ∧ c0.length ≤ B ∧ (∀ x ∈ c0, okU8 x)
def okCell (B : Nat) (r : List Cell) : Prop := ∃ a0 a1, r = [.v (.int .i64 a0), .v (.int .i64 a1)]
theorem okCell_pure {B : Nat} {r : List Cell} (h : okCell B r) : ∀ K, cells1 K r := by
  obtain ⟨a0, a1, rfl⟩ := h
  intro K
  simp only [cells1_cons, cells1_nil, Clean_ownR, and_true]
  exact ⟨Clean.v, Clean.v⟩
theorem okCell_le {B B2 : Nat} {r : List Cell} (h : okCell B r) (hc : cntR r ≤ B2) : okCell B2 r := by
  obtain ⟨a0, a1, rfl⟩ := h
  simp only [cntR_cons, cntC_own, cntC_v, cntR_nil] at hc
  exact ⟨a0, a1, rfl⟩
theorem okCell_cnt {B : Nat} {r : List Cell} (h : okCell B r) : cntR r = 0 := by obtain ⟨a0, a1, rfl⟩ := h; simp [cntR_cons, cntC_v, cntR_nil]
theorem laws_eqCell (H : HH) {row cs cs' : List Cell} (ok : okCell 1048576 row) (hr : Refs H row cs) (hr' : Refs H row cs') : PFun Try.prog 152 [.a cs, .a cs'] H (B true) := by
  obtain ⟨a0, a1, rfl⟩ := ok
  simp only [Refs_v, Refs_own, Refs_nil] at hr hr'
  obtain ⟨_, rfl, _, rfl, rfl⟩ := hr
  obtain ⟨_, rfl, _, rfl, rfl⟩ := hr'
  refine PFun.of [2, 3, 4, 9, 14] Try.func152 rfl (by simp [Try.f152]) ?_
  intro d hd0 hfr hcl hout
  have hcd : ∀ n q, CleanH (hit [((d, n), q)]) H := fun n q => hcl.at
  simp (maxSteps := 4000000) [hd0, hfr, hout, hcl, hcd, delA_none, Try.f152]

theorem laws_eqCellS (H : HH) {r q r2 q2} {rows : List (List Cell)} (hb : rows.length ≤ 1048576) (ok : ∀ x ∈ rows, okCell 1048576 x) (ha : arrAt H r q = some (2, rows)) (hb2 : arrAt H r2 q2 = some (2, rows)) : PFun Try.prog 93 [.c (.sl r q 2 0 rows.length), .c (.sl r2 q2 2 0 rows.length)] H (B true) := by
  refine PFun.of [0, 1, 4, 5, 10, 14, 26] Try.func93 rfl (by simp [Try.f93]) ?_
  intro d hd0 hfr hcl hout
  have hcd : ∀ n q, CleanH (hit [((d, n), q)]) H := fun n q => hcl.at
  have ha_n : ∀ n, ¬ (d, n) = r := fun n => nm_ne (ne_of_arr hfr ha)
  have ha_d : ¬ r.1 = d := ne_of_arr hfr ha
  have ha_m : ∀ n, ¬ r = (d, n) := fun n => nm_ne' (ne_of_arr hfr ha)
  have hb2_n : ∀ n, ¬ (d, n) = r2 := fun n => nm_ne (ne_of_arr hfr hb2)
  have hb2_d : ¬ r2.1 = d := ne_of_arr hfr hb2
  have hb2_m : ∀ n, ¬ r2 = (d, n) := fun n => nm_ne' (ne_of_arr hfr hb2)
  simp (maxSteps := 4000000) [hd0, hfr, hout, hcl, hcd, delA_none, ha, ha_n, ha_d, ha_m, hb2, hb2_n, hb2_d, hb2_m, Try.f93]
  refine LoopK.intro (fun m s => ∃ i : Nat, i + m = rows.length ∧ s = ⟨[(0, .c (.sl r q 2 0 rows.length)), (1, .c (.sl r2 q2 2 0 rows.length)), (5, I i)], H, []⟩) (rows.length + 1)
    (LK.intro rows.length [0, 1, 5] [] (by omega) (by decide) (by simp (maxSteps := 4000000) [hd0, hfr, hout, hcl, hcd, delA_none, ha, ha_n, ha_d, ha_m, hb2, hb2_n, hb2_d, hb2_m]) ⟨0, by simp⟩) ?_
  rintro m s ⟨i, him, rfl⟩
  simp (maxSteps := 4000000) [hd0, hfr, hout, hcl, hcd, delA_none, ha, ha_n, ha_d, ha_m, hb2, hb2_n, hb2_d, hb2_m]
  intro hi
  have hi' : i < rows.length := by omega
  have w1 : IntKind.i64.wrap ((i : Int) + 1) = i + 1 := w64 (by omega) (by omega)
  have hok := ok _ (List.getElem_mem hi')
  obtain ⟨a0, a1, hx⟩ := hok
  refine DrawK.intro 10 [0, 1, 5, 26] rfl (by kernel_rfl) (by decide) ?_
  simp (maxSteps := 4000000) [hd0, hfr, hout, hcl, hcd, delA_none, ha, ha_n, ha_d, ha_m, hb2, hb2_n, hb2_d, hb2_m, hi', hx]
  refine ⟨_, laws_eqCell _ (row := [.v (.int .i64 a0), .v (.int .i64 a1)]) ⟨a0, a1, rfl⟩ (Refs_v.2 ⟨_, rfl, Refs_v.2 ⟨_, rfl, Refs_nil.2 rfl⟩⟩) (Refs_v.2 ⟨_, rfl, Refs_v.2 ⟨_, rfl, Refs_nil.2 rfl⟩⟩), ?_⟩
  simp (maxSteps := 4000000) [hd0, hfr, hout, hcl, hcd, delA_none, ha, ha_n, ha_d, ha_m, hb2, hb2_n, hb2_d, hb2_m, w1]
  exact LK.intro (m - 1) [0, 1, 5] [] (by omega) (by decide) (by simp (maxSteps := 4000000) [hd0, hfr, hout, hcl, hcd, delA_none, ha, ha_n, ha_d, ha_m, hb2, hb2_n, hb2_d, hb2_m]) ⟨i + 1, by omega, by simp⟩

theorem laws_eqInt64S (H : HH) {r q r2 q2} {rows : List (List Cell)} (hb : rows.length ≤ 1048576) (ok : ∀ x ∈ rows, okI64 x) (ha : arrAt H r q = some (1, rows)) (hb2 : arrAt H r2 q2 = some (1, rows)) : PFun Try.prog 53 [.c (.sl r q 1 0 rows.length), .c (.sl r2 q2 1 0 rows.length)] H (B true) := by
  refine PFun.of [0, 1, 4, 5, 10, 14, 25] Try.func53 rfl (by simp [Try.f53]) ?_
  intro d hd0 hfr hcl hout
  have hcd : ∀ n q, CleanH (hit [((d, n), q)]) H := fun n q => hcl.at
  have ha_n : ∀ n, ¬ (d, n) = r := fun n => nm_ne (ne_of_arr hfr ha)
  have ha_d : ¬ r.1 = d := ne_of_arr hfr ha
  have ha_m : ∀ n, ¬ r = (d, n) := fun n => nm_ne' (ne_of_arr hfr ha)
  have hb2_n : ∀ n, ¬ (d, n) = r2 := fun n => nm_ne (ne_of_arr hfr hb2)
  have hb2_d : ¬ r2.1 = d := ne_of_arr hfr hb2
  have hb2_m : ∀ n, ¬ r2 = (d, n) := fun n => nm_ne' (ne_of_arr hfr hb2)
  simp (maxSteps := 4000000) [hd0, hfr, hout, hcl, hcd, delA_none, ha, ha_n, ha_d, ha_m, hb2, hb2_n, hb2_d, hb2_m, Try.f53]
  refine LoopK.intro (fun m s => ∃ i : Nat, i + m = rows.length ∧ s = ⟨[(0, .c (.sl r q 1 0 rows.length)), (1, .c (.sl r2 q2 1 0 rows.length)), (5, I i)], H, []⟩) (rows.length + 1)
    (LK.intro rows.length [0, 1, 5] [] (by omega) (by decide) (by simp (maxSteps := 4000000) [hd0, hfr, hout, hcl, hcd, delA_none, ha, ha_n, ha_d, ha_m, hb2, hb2_n, hb2_d, hb2_m]) ⟨0, by simp⟩) ?_
  rintro m s ⟨i, him, rfl⟩
  simp (maxSteps := 4000000) [hd0, hfr, hout, hcl, hcd, delA_none, ha, ha_n, ha_d, ha_m, hb2, hb2_n, hb2_d, hb2_m]
  intro hi
  have hi' : i < rows.length := by omega
  have w1 : IntKind.i64.wrap ((i : Int) + 1) = i + 1 := w64 (by omega) (by omega)
  have hok := ok _ (List.getElem_mem hi')
  obtain ⟨x0, hx⟩ := hok
  refine DrawK.intro 9 [0, 1, 5, 25] rfl (by kernel_rfl) (by decide) ?_
  simp (maxSteps := 4000000) [hd0, hfr, hout, hcl, hcd, delA_none, ha, ha_n, ha_d, ha_m, hb2, hb2_n, hb2_d, hb2_m, hi', hx, w1]
  exact LK.intro (m - 1) [0, 1, 5] [] (by omega) (by decide) (by simp (maxSteps := 4000000) [hd0, hfr, hout, hcl, hcd, delA_none, ha, ha_n, ha_d, ha_m, hb2, hb2_n, hb2_d, hb2_m]) ⟨i + 1, by omega, by simp⟩

def okCopied (B : Nat) (r : List Cell) : Prop := ∃ a0 a1 a2 c3 c4 c5, r = [.v (.int .i64 a0), .v (.int .i64 a1), .v (.int .i64 a2), .own 2 c3, .own 2 c4, .own 1 c5] ∧ c3.length ≤ B ∧ (∀ x ∈ c3, okCell B x) ∧ c4.length ≤ B ∧ (∀ x ∈ c4, okCell B x) ∧ c5.length ≤ B ∧ (∀ x ∈ c5, okI64 x)
theorem okCopied_pure {B : Nat} {r : List Cell} (h : okCopied B r) : ∀ K, cells1 K r := by
  obtain ⟨a0, a1, a2, c3, c4, c5, rfl, lc3, oc3, lc4, oc4, lc5, oc5⟩ := h
  intro K
  simp only [cells1_cons, cells1_nil, Clean_ownR, and_true]
  exact ⟨Clean.v, Clean.v, Clean.v, (fun x hx => okCell_pure (oc3 x hx) K), (fun x hx => okCell_pure (oc4 x hx) K), (fun x hx => okI64_pure (oc5 x hx) K)⟩
theorem okCopied_le {B B2 : Nat} {r : List Cell} (h : okCopied B r) (hc : cntR r ≤ B2) : okCopied B2 r := by
  obtain ⟨a0, a1, a2, c3, c4, c5, rfl, lc3, oc3, lc4, oc4, lc5, oc5⟩ := h
  simp only [cntR_cons, cntC_own, cntC_v, cntR_nil] at hc
  exact ⟨a0, a1, a2, c3, c4, c5, rfl, (by omega), (fun x hx => okCell_le (oc3 x hx) (by have := cntR_mem hx; omega)), (by omega), (fun x hx => okCell_le (oc4 x hx) (by have := cntR_mem hx; omega)), (by omega), (fun x hx => oc5 x hx)⟩
theorem laws_eqCopied (H : HH) {row cs cs' : List Cell} (ok : okCopied 1048576 row) (hr : Refs H row cs) (hr' : Refs H row cs') : PFun Try.prog 153 [.a cs, .a cs'] H (B true) := by
  obtain ⟨a0, a1, a2, c3, c4, c5, rfl, lc3, oc3, lc4, oc4, lc5, oc5⟩ := ok
  simp only [Refs_v, Refs_own, Refs_nil] at hr hr'
  obtain ⟨_, rfl, _, rfl, _, rfl, rc3, qc3, _, rfl, hc3, rc4, qc4, _, rfl, hc4, rc5, qc5, _, rfl, hc5, rfl⟩ := hr
  obtain ⟨_, rfl, _, rfl, _, rfl, rc3b, qc3b, _, rfl, hc3b, rc4b, qc4b, _, rfl, hc4b, rc5b, qc5b, _, rfl, hc5b, rfl⟩ := hr'
  refine PFun.of [2, 3, 4, 9, 14, 19, 25, 31, 37] Try.func153 rfl (by simp [Try.f153]) ?_
  intro d hd0 hfr hcl hout
  have hcd : ∀ n q, CleanH (hit [((d, n), q)]) H := fun n q => hcl.at
  have hc3_n : ∀ n, ¬ (d, n) = rc3 := fun n => nm_ne (ne_of_arr hfr hc3)
  have hc3_d : ¬ rc3.1 = d := ne_of_arr hfr hc3
  have hc3_m : ∀ n, ¬ rc3 = (d, n) := fun n => nm_ne' (ne_of_arr hfr hc3)
  have hc4_n : ∀ n, ¬ (d, n) = rc4 := fun n => nm_ne (ne_of_arr hfr hc4)
  have hc4_d : ¬ rc4.1 = d := ne_of_arr hfr hc4
  have hc4_m : ∀ n, ¬ rc4 = (d, n) := fun n => nm_ne' (ne_of_arr hfr hc4)
  have hc5_n : ∀ n, ¬ (d, n) = rc5 := fun n => nm_ne (ne_of_arr hfr hc5)
  have hc5_d : ¬ rc5.1 = d := ne_of_arr hfr hc5
  have hc5_m : ∀ n, ¬ rc5 = (d, n) := fun n => nm_ne' (ne_of_arr hfr hc5)
  have hc3b_n : ∀ n, ¬ (d, n) = rc3b := fun n => nm_ne (ne_of_arr hfr hc3b)
  have hc3b_d : ¬ rc3b.1 = d := ne_of_arr hfr hc3b
  have hc3b_m : ∀ n, ¬ rc3b = (d, n) := fun n => nm_ne' (ne_of_arr hfr hc3b)
  have hc4b_n : ∀ n, ¬ (d, n) = rc4b := fun n => nm_ne (ne_of_arr hfr hc4b)
  have hc4b_d : ¬ rc4b.1 = d := ne_of_arr hfr hc4b
  have hc4b_m : ∀ n, ¬ rc4b = (d, n) := fun n => nm_ne' (ne_of_arr hfr hc4b)
  have hc5b_n : ∀ n, ¬ (d, n) = rc5b := fun n => nm_ne (ne_of_arr hfr hc5b)
  have hc5b_d : ¬ rc5b.1 = d := ne_of_arr hfr hc5b
  have hc5b_m : ∀ n, ¬ rc5b = (d, n) := fun n => nm_ne' (ne_of_arr hfr hc5b)
  simp (maxSteps := 4000000) [hd0, hfr, hout, hcl, hcd, delA_none, hc3, hc3_n, hc3_d, hc3_m, hc4, hc4_n, hc4_d, hc4_m, hc5, hc5_n, hc5_d, hc5_m, hc3b, hc3b_n, hc3b_d, hc3b_m, hc4b, hc4b_n, hc4b_d, hc4b_m, hc5b, hc5b_n, hc5b_d, hc5b_m, Try.f153]
  refine (laws_eqCellS _ lc3 oc3 (by simp (maxSteps := 4000000) [hd0, hfr, hout, hcl, hcd, delA_none, hc3, hc3_n, hc3_d, hc3_m, hc4, hc4_n, hc4_d, hc4_m, hc5, hc5_n, hc5_d, hc5_m, hc3b, hc3b_n, hc3b_d, hc3b_m, hc4b, hc4b_n, hc4b_d, hc4b_m, hc5b, hc5b_n, hc5b_d, hc5b_m]) (by simp (maxSteps := 4000000) [hd0, hfr, hout, hcl, hcd, delA_none, hc3, hc3_n, hc3_d, hc3_m, hc4, hc4_n, hc4_d, hc4_m, hc5, hc5_n, hc5_d, hc5_m, hc3b, hc3b_n, hc3b_d, hc3b_m, hc4b, hc4b_n, hc4b_d, hc4b_m, hc5b, hc5b_n, hc5b_d, hc5b_m])).useCK ?_
  simp (maxSteps := 4000000) [hd0, hfr, hout, hcl, hcd, delA_none, hc3, hc3_n, hc3_d, hc3_m, hc4, hc4_n, hc4_d, hc4_m, hc5, hc5_n, hc5_d, hc5_m, hc3b, hc3b_n, hc3b_d, hc3b_m, hc4b, hc4b_n, hc4b_d, hc4b_m, hc5b, hc5b_n, hc5b_d, hc5b_m]
  refine (laws_eqCellS _ lc4 oc4 (by simp (maxSteps := 4000000) [hd0, hfr, hout, hcl, hcd, delA_none, hc3, hc3_n, hc3_d, hc3_m, hc4, hc4_n, hc4_d, hc4_m, hc5, hc5_n, hc5_d, hc5_m, hc3b, hc3b_n, hc3b_d, hc3b_m, hc4b, hc4b_n, hc4b_d, hc4b_m, hc5b, hc5b_n, hc5b_d, hc5b_m]) (by simp (maxSteps := 4000000) [hd0, hfr, hout, hcl, hcd, delA_none, hc3, hc3_n, hc3_d, hc3_m, hc4, hc4_n, hc4_d, hc4_m, hc5, hc5_n, hc5_d, hc5_m, hc3b, hc3b_n, hc3b_d, hc3b_m, hc4b, hc4b_n, hc4b_d, hc4b_m, hc5b, hc5b_n, hc5b_d, hc5b_m])).useCK ?_
  simp (maxSteps := 4000000) [hd0, hfr, hout, hcl, hcd, delA_none, hc3, hc3_n, hc3_d, hc3_m, hc4, hc4_n, hc4_d, hc4_m, hc5, hc5_n, hc5_d, hc5_m, hc3b, hc3b_n, hc3b_d, hc3b_m, hc4b, hc4b_n, hc4b_d, hc4b_m, hc5b, hc5b_n, hc5b_d, hc5b_m]
  refine (laws_eqInt64S _ lc5 oc5 (by simp (maxSteps := 4000000) [hd0, hfr, hout, hcl, hcd, delA_none, hc3, hc3_n, hc3_d, hc3_m, hc4, hc4_n, hc4_d, hc4_m, hc5, hc5_n, hc5_d, hc5_m, hc3b, hc3b_n, hc3b_d, hc3b_m, hc4b, hc4b_n, hc4b_d, hc4b_m, hc5b, hc5b_n, hc5b_d, hc5b_m]) (by simp (maxSteps := 4000000) [hd0, hfr, hout, hcl, hcd, delA_none, hc3, hc3_n, hc3_d, hc3_m, hc4, hc4_n, hc4_d, hc4_m, hc5, hc5_n, hc5_d, hc5_m, hc3b, hc3b_n, hc3b_d, hc3b_m, hc4b, hc4b_n, hc4b_d, hc4b_m, hc5b, hc5b_n, hc5b_d, hc5b_m])).useCK ?_
  simp (maxSteps := 4000000) [hd0, hfr, hout, hcl, hcd, delA_none, hc3, hc3_n, hc3_d, hc3_m, hc4, hc4_n, hc4_d, hc4_m, hc5, hc5_n, hc5_d, hc5_m, hc3b, hc3b_n, hc3b_d, hc3b_m, hc4b, hc4b_n, hc4b_d, hc4b_m, hc5b, hc5b_n, hc5b_d, hc5b_m]

theorem laws_eqCopiedS (H : HH) {r q r2 q2} {rows : List (List Cell)} (hb : rows.length ≤ 1048576) (ok : ∀ x ∈ rows, okCopied 1048576 x) (ha : arrAt H r q = some (6, rows)) (hb2 : arrAt H r2 q2 = some (6, rows)) : PFun Try.prog 94 [.c (.sl r q 6 0 rows.length), .c (.sl r2 q2 6 0 rows.length)] H (B true) := by
  refine PFun.of [0, 1, 4, 5, 10, 14, 26] Try.func94 rfl (by simp [Try.f94]) ?_
  intro d hd0 hfr hcl hout
  have hcd : ∀ n q, CleanH (hit [((d, n), q)]) H := fun n q => hcl.at
  have ha_n : ∀ n, ¬ (d, n) = r := fun n => nm_ne (ne_of_arr hfr ha)
  have ha_d : ¬ r.1 = d := ne_of_arr hfr ha
  have ha_m : ∀ n, ¬ r = (d, n) := fun n => nm_ne' (ne_of_arr hfr ha)
  have hb2_n : ∀ n, ¬ (d, n) = r2 := fun n => nm_ne (ne_of_arr hfr hb2)
  have hb2_d : ¬ r2.1 = d := ne_of_arr hfr hb2
  have hb2_m : ∀ n, ¬ r2 = (d, n) := fun n => nm_ne' (ne_of_arr hfr hb2)
  simp (maxSteps := 4000000) [hd0, hfr, hout, hcl, hcd, delA_none, ha, ha_n, ha_d, ha_m, hb2, hb2_n, hb2_d, hb2_m, Try.f94]
  refine LoopK.intro (fun m s => ∃ i : Nat, i + m = rows.length ∧ s = ⟨[(0, .c (.sl r q 6 0 rows.length)), (1, .c (.sl r2 q2 6 0 rows.length)), (5, I i)], H, []⟩) (rows.length + 1)
    (LK.intro rows.length [0, 1, 5] [] (by omega) (by decide) (by simp (maxSteps := 4000000) [hd0, hfr, hout, hcl, hcd, delA_none, ha, ha_n, ha_d, ha_m, hb2, hb2_n, hb2_d, hb2_m]) ⟨0, by simp⟩) ?_
  rintro m s ⟨i, him, rfl⟩
  simp (maxSteps := 4000000) [hd0, hfr, hout, hcl, hcd, delA_none, ha, ha_n, ha_d, ha_m, hb2, hb2_n, hb2_d, hb2_m]
  intro hi
  have hi' : i < rows.length := by omega
  have w1 : IntKind.i64.wrap ((i : Int) + 1) = i + 1 := w64 (by omega) (by omega)
  have hok := ok _ (List.getElem_mem hi')
  obtain ⟨a0, a1, a2, c3, c4, c5, hx, lc3, oc3, lc4, oc4, lc5, oc5⟩ := hok
  refine DrawK.intro 10 [0, 1, 5, 26] rfl (by kernel_rfl) (by decide) ?_
  have s1c3 := arrAt_sub ha (List.getElem?_eq_getElem hi') (f := 3) (by rw [hx]; rfl)
  have s1c4 := arrAt_sub ha (List.getElem?_eq_getElem hi') (f := 4) (by rw [hx]; rfl)
  have s1c5 := arrAt_sub ha (List.getElem?_eq_getElem hi') (f := 5) (by rw [hx]; rfl)
  have s2c3 := arrAt_sub hb2 (List.getElem?_eq_getElem hi') (f := 3) (by rw [hx]; rfl)
  have s2c4 := arrAt_sub hb2 (List.getElem?_eq_getElem hi') (f := 4) (by rw [hx]; rfl)
  have s2c5 := arrAt_sub hb2 (List.getElem?_eq_getElem hi') (f := 5) (by rw [hx]; rfl)
  simp (maxSteps := 4000000) [hd0, hfr, hout, hcl, hcd, delA_none, ha, ha_n, ha_d, ha_m, hb2, hb2_n, hb2_d, hb2_m, hi', hx]
  refine ⟨_, laws_eqCopied _ (row := [.v (.int .i64 a0), .v (.int .i64 a1), .v (.int .i64 a2), .own 2 c3, .own 2 c4, .own 1 c5]) ⟨a0, a1, a2, c3, c4, c5, rfl, lc3, oc3, lc4, oc4, lc5, oc5⟩ (Refs_v.2 ⟨_, rfl, Refs_v.2 ⟨_, rfl, Refs_v.2 ⟨_, rfl, Refs_own.2 ⟨_, _, _, rfl, by simp (maxSteps := 4000000) [hd0, hfr, hout, hcl, hcd, delA_none, ha, ha_n, ha_d, ha_m, hb2, hb2_n, hb2_d, hb2_m, s1c3], Refs_own.2 ⟨_, _, _, rfl, by simp (maxSteps := 4000000) [hd0, hfr, hout, hcl, hcd, delA_none, ha, ha_n, ha_d, ha_m, hb2, hb2_n, hb2_d, hb2_m, s1c4], Refs_own.2 ⟨_, _, _, rfl, by simp (maxSteps := 4000000) [hd0, hfr, hout, hcl, hcd, delA_none, ha, ha_n, ha_d, ha_m, hb2, hb2_n, hb2_d, hb2_m, s1c5], Refs_nil.2 rfl⟩⟩⟩⟩⟩⟩) (Refs_v.2 ⟨_, rfl, Refs_v.2 ⟨_, rfl, Refs_v.2 ⟨_, rfl, Refs_own.2 ⟨_, _, _, rfl, by simp (maxSteps := 4000000) [hd0, hfr, hout, hcl, hcd, delA_none, ha, ha_n, ha_d, ha_m, hb2, hb2_n, hb2_d, hb2_m, s2c3], Refs_own.2 ⟨_, _, _, rfl, by simp (maxSteps := 4000000) [hd0, hfr, hout, hcl, hcd, delA_none, ha, ha_n, ha_d, ha_m, hb2, hb2_n, hb2_d, hb2_m, s2c4], Refs_own.2 ⟨_, _, _, rfl, by simp (maxSteps := 4000000) [hd0, hfr, hout, hcl, hcd, delA_none, ha, ha_n, ha_d, ha_m, hb2, hb2_n, hb2_d, hb2_m, s2c5], Refs_nil.2 rfl⟩⟩⟩⟩⟩⟩), ?_⟩
  simp (maxSteps := 4000000) [hd0, hfr, hout, hcl, hcd, delA_none, ha, ha_n, ha_d, ha_m, hb2, hb2_n, hb2_d, hb2_m, w1]
  exact LK.intro (m - 1) [0, 1, 5] [] (by omega) (by decide) (by simp (maxSteps := 4000000) [hd0, hfr, hout, hcl, hcd, delA_none, ha, ha_n, ha_d, ha_m, hb2, hb2_n, hb2_d, hb2_m]) ⟨i + 1, by omega, by simp⟩

def okCopies (B : Nat) (r : List Cell) : Prop := ∃ a0 a1 c2 c3 c4, r = [.v (.int .i64 a0), .v (.int .i64 a1), .own 2 c2, .own 1 c3, .own 6 c4] ∧ c2.length ≤ B ∧ (∀ x ∈ c2, okCell B x) ∧ c3.length ≤ B ∧ (∀ x ∈ c3, okI64 x) ∧ c4.length ≤ B ∧ (∀ x ∈ c4, okCopied B x)
theorem okCopies_le {B B2 : Nat} {r : List Cell} (h : okCopies B r) (hc : cntR r ≤ B2) : okCopies B2 r := by
  obtain ⟨a0, a1, c2, c3, c4, rfl, lc2, oc2, lc3, oc3, lc4, oc4⟩ := h
  simp only [cntR_cons, cntC_own, cntC_v, cntR_nil] at hc
  exact ⟨a0, a1, c2, c3, c4, rfl, (by omega), (fun x hx => okCell_le (oc2 x hx) (by have := cntR_mem hx; omega)), (by omega), (fun x hx => oc3 x hx), (by omega), (fun x hx => okCopied_le (oc4 x hx) (by have := cntR_mem hx; omega))⟩
theorem laws_eqCopies (H : HH) {row cs cs' : List Cell} (ok : okCopies 1048576 row) (hr : Refs H row cs) (hr' : Refs H row cs') : PFun Try.prog 18 [.a cs, .a cs'] H (B true) := by
  obtain ⟨a0, a1, c2, c3, c4, rfl, lc2, oc2, lc3, oc3, lc4, oc4⟩ := ok
  simp only [Refs_v, Refs_own, Refs_nil] at hr hr'
  obtain ⟨_, rfl, _, rfl, rc2, qc2, _, rfl, hc2, rc3, qc3, _, rfl, hc3, rc4, qc4, _, rfl, hc4, rfl⟩ := hr
  obtain ⟨_, rfl, _, rfl, rc2b, qc2b, _, rfl, hc2b, rc3b, qc3b, _, rfl, hc3b, rc4b, qc4b, _, rfl, hc4b, rfl⟩ := hr'
  refine PFun.of [2, 3, 4, 9, 14, 20, 26, 32] Try.func18 rfl (by simp [Try.f18]) ?_
  intro d hd0 hfr hcl hout
  have hcd : ∀ n q, CleanH (hit [((d, n), q)]) H := fun n q => hcl.at
  have hc2_n : ∀ n, ¬ (d, n) = rc2 := fun n => nm_ne (ne_of_arr hfr hc2)
  have hc2_d : ¬ rc2.1 = d := ne_of_arr hfr hc2
  have hc2_m : ∀ n, ¬ rc2 = (d, n) := fun n => nm_ne' (ne_of_arr hfr hc2)
  have hc3_n : ∀ n, ¬ (d, n) = rc3 := fun n => nm_ne (ne_of_arr hfr hc3)
  have hc3_d : ¬ rc3.1 = d := ne_of_arr hfr hc3
  have hc3_m : ∀ n, ¬ rc3 = (d, n) := fun n => nm_ne' (ne_of_arr hfr hc3)
  have hc4_n : ∀ n, ¬ (d, n) = rc4 := fun n => nm_ne (ne_of_arr hfr hc4)
  have hc4_d : ¬ rc4.1 = d := ne_of_arr hfr hc4
  have hc4_m : ∀ n, ¬ rc4 = (d, n) := fun n => nm_ne' (ne_of_arr hfr hc4)
  have hc2b_n : ∀ n, ¬ (d, n) = rc2b := fun n => nm_ne (ne_of_arr hfr hc2b)
  have hc2b_d : ¬ rc2b.1 = d := ne_of_arr hfr hc2b
  have hc2b_m : ∀ n, ¬ rc2b = (d, n) := fun n => nm_ne' (ne_of_arr hfr hc2b)
  have hc3b_n : ∀ n, ¬ (d, n) = rc3b := fun n => nm_ne (ne_of_arr hfr hc3b)
  have hc3b_d : ¬ rc3b.1 = d := ne_of_arr hfr hc3b
  have hc3b_m : ∀ n, ¬ rc3b = (d, n) := fun n => nm_ne' (ne_of_arr hfr hc3b)
  have hc4b_n : ∀ n, ¬ (d, n) = rc4b := fun n => nm_ne (ne_of_arr hfr hc4b)
  have hc4b_d : ¬ rc4b.1 = d := ne_of_arr hfr hc4b
  have hc4b_m : ∀ n, ¬ rc4b = (d, n) := fun n => nm_ne' (ne_of_arr hfr hc4b)
  simp (maxSteps := 4000000) [hd0, hfr, hout, hcl, hcd, delA_none, hc2, hc2_n, hc2_d, hc2_m, hc3, hc3_n, hc3_d, hc3_m, hc4, hc4_n, hc4_d, hc4_m, hc2b, hc2b_n, hc2b_d, hc2b_m, hc3b, hc3b_n, hc3b_d, hc3b_m, hc4b, hc4b_n, hc4b_d, hc4b_m, Try.f18]
  refine (laws_eqCellS _ lc2 oc2 (by simp (maxSteps := 4000000) [hd0, hfr, hout, hcl, hcd, delA_none, hc2, hc2_n, hc2_d, hc2_m, hc3, hc3_n, hc3_d, hc3_m, hc4, hc4_n, hc4_d, hc4_m, hc2b, hc2b_n, hc2b_d, hc2b_m, hc3b, hc3b_n, hc3b_d, hc3b_m, hc4b, hc4b_n, hc4b_d, hc4b_m]) (by simp (maxSteps := 4000000) [hd0, hfr, hout, hcl, hcd, delA_none, hc2, hc2_n, hc2_d, hc2_m, hc3, hc3_n, hc3_d, hc3_m, hc4, hc4_n, hc4_d, hc4_m, hc2b, hc2b_n, hc2b_d, hc2b_m, hc3b, hc3b_n, hc3b_d, hc3b_m, hc4b, hc4b_n, hc4b_d, hc4b_m])).useCK ?_
  simp (maxSteps := 4000000) [hd0, hfr, hout, hcl, hcd, delA_none, hc2, hc2_n, hc2_d, hc2_m, hc3, hc3_n, hc3_d, hc3_m, hc4, hc4_n, hc4_d, hc4_m, hc2b, hc2b_n, hc2b_d, hc2b_m, hc3b, hc3b_n, hc3b_d, hc3b_m, hc4b, hc4b_n, hc4b_d, hc4b_m]
  refine (laws_eqInt64S _ lc3 oc3 (by simp (maxSteps := 4000000) [hd0, hfr, hout, hcl, hcd, delA_none, hc2, hc2_n, hc2_d, hc2_m, hc3, hc3_n, hc3_d, hc3_m, hc4, hc4_n, hc4_d, hc4_m, hc2b, hc2b_n, hc2b_d, hc2b_m, hc3b, hc3b_n, hc3b_d, hc3b_m, hc4b, hc4b_n, hc4b_d, hc4b_m]) (by simp (maxSteps := 4000000) [hd0, hfr, hout, hcl, hcd, delA_none, hc2, hc2_n, hc2_d, hc2_m, hc3, hc3_n, hc3_d, hc3_m, hc4, hc4_n, hc4_d, hc4_m, hc2b, hc2b_n, hc2b_d, hc2b_m, hc3b, hc3b_n, hc3b_d, hc3b_m, hc4b, hc4b_n, hc4b_d, hc4b_m])).useCK ?_
  simp (maxSteps := 4000000) [hd0, hfr, hout, hcl, hcd, delA_none, hc2, hc2_n, hc2_d, hc2_m, hc3, hc3_n, hc3_d, hc3_m, hc4, hc4_n, hc4_d, hc4_m, hc2b, hc2b_n, hc2b_d, hc2b_m, hc3b, hc3b_n, hc3b_d, hc3b_m, hc4b, hc4b_n, hc4b_d, hc4b_m]
  refine (laws_eqCopiedS _ lc4 oc4 (by simp (maxSteps := 4000000) [hd0, hfr, hout, hcl, hcd, delA_none, hc2, hc2_n, hc2_d, hc2_m, hc3, hc3_n, hc3_d, hc3_m, hc4, hc4_n, hc4_d, hc4_m, hc2b, hc2b_n, hc2b_d, hc2b_m, hc3b, hc3b_n, hc3b_d, hc3b_m, hc4b, hc4b_n, hc4b_d, hc4b_m]) (by simp (maxSteps := 4000000) [hd0, hfr, hout, hcl, hcd, delA_none, hc2, hc2_n, hc2_d, hc2_m, hc3, hc3_n, hc3_d, hc3_m, hc4, hc4_n, hc4_d, hc4_m, hc2b, hc2b_n, hc2b_d, hc2b_m, hc3b, hc3b_n, hc3b_d, hc3b_m, hc4b, hc4b_n, hc4b_d, hc4b_m])).useCK ?_
  simp (maxSteps := 4000000) [hd0, hfr, hout, hcl, hcd, delA_none, hc2, hc2_n, hc2_d, hc2_m, hc3, hc3_n, hc3_d, hc3_m, hc4, hc4_n, hc4_d, hc4_m, hc2b, hc2b_n, hc2b_d, hc2b_m, hc3b, hc3b_n, hc3b_d, hc3b_m, hc4b, hc4b_n, hc4b_d, hc4b_m]

def okLoose (B : Nat) (r : List Cell) : Prop := ∃ a0 a1 c2, r = [.v (.int .i64 a0), .v (.int .i64 a1), .own 1 c2] ∧ c2.length ≤ B ∧ (∀ x ∈ c2, okU8 x)
def okDisk (B : Nat) (r : List Cell) : Prop := ∃ c0 c1, r = [.own 1 c0, .own 3 c1] ∧ c0.length ≤ B ∧ (∀ x ∈ c0, okByteS B x) ∧ c1.length ≤ B ∧ (∀ x ∈ c1, okLoose B x)
theorem laws_szCellS (H : HH) {r q} {rows : List (List Cell)} {left : Int} (hn : rows.length ≤ 9223372036854775807) (h1 : 0 ≤ left) (h2 : left ≤ 1048576) (ok : ∀ x ∈ rows, okCell 9223372036854775807 x) : PFun Try.prog 75 [.c (.sl r q 2 0 rows.length), I left] H (I (szV (cntC (.own 2 rows)) left)) := by
  rw [cntC_own, cntRs_zero (fun x hx => okCell_cnt (ok x hx))]
  refine PFun.of [0, 1, 4, 10] Try.func75 rfl (by simp [Try.f75]) ?_
  intro d hd0 hfr hcl hout
  have hcd : ∀ n q, CleanH (hit [((d, n), q)]) H := fun n q => hcl.at
  simp (maxSteps := 4000000) [hd0, hfr, hout, hcl, hcd, delA_none, Try.f75]
  have w : IntKind.i64.wrap (left - rows.length) = left - rows.length := w64 (by omega) (by omega)
  simp (maxSteps := 4000000) [hd0, hfr, hout, hcl, hcd, delA_none, w, szV]
  omega

theorem laws_szInt64S (H : HH) {r q} {rows : List (List Cell)} {left : Int} (hn : rows.length ≤ 9223372036854775807) (h1 : 0 ≤ left) (h2 : left ≤ 1048576) (ok : ∀ x ∈ rows, okI64 x) : PFun Try.prog 76 [.c (.sl r q 1 0 rows.length), I left] H (I (szV (cntC (.own 1 rows)) left)) := by
  rw [cntC_own, cntRs_zero (fun x hx => okI64_cnt (ok x hx))]
  refine PFun.of [0, 1, 4, 10] Try.func76 rfl (by simp [Try.f76]) ?_
  intro d hd0 hfr hcl hout
  have hcd : ∀ n q, CleanH (hit [((d, n), q)]) H := fun n q => hcl.at
  simp (maxSteps := 4000000) [hd0, hfr, hout, hcl, hcd, delA_none, Try.f76]
  have w : IntKind.i64.wrap (left - rows.length) = left - rows.length := w64 (by omega) (by omega)
  simp (maxSteps := 4000000) [hd0, hfr, hout, hcl, hcd, delA_none, w, szV]
  omega

theorem laws_szCopied (H : HH) {row cs : List Cell} {left : Int} (ok : okCopied 9223372036854775807 row) (hr : Refs H row cs) (h1 : 0 ≤ left) (h2 : left ≤ 1048576) : PFun Try.prog 145 [.a cs, I left] H (I (szV (cntR row) left)) := by
  obtain ⟨a0, a1, a2, c3, c4, c5, rfl, lc3, oc3, lc4, oc4, lc5, oc5⟩ := ok
  simp only [Refs_v, Refs_own, Refs_nil] at hr
  obtain ⟨_, rfl, _, rfl, _, rfl, rc3, qc3, _, rfl, hc3, rc4, qc4, _, rfl, hc4, rc5, qc5, _, rfl, hc5, rfl⟩ := hr
  simp only [cntR_cons, cntR_nil, cntC_v, cntC_own]
  refine PFun.of [1, 2, 4, 10, 16, 22] Try.func145 rfl (by simp [Try.f145]) ?_
  intro d hd0 hfr hcl hout
  have hcd : ∀ n q, CleanH (hit [((d, n), q)]) H := fun n q => hcl.at
  have hc3_n : ∀ n, ¬ (d, n) = rc3 := fun n => nm_ne (ne_of_arr hfr hc3)
  have hc3_d : ¬ rc3.1 = d := ne_of_arr hfr hc3
  have hc3_m : ∀ n, ¬ rc3 = (d, n) := fun n => nm_ne' (ne_of_arr hfr hc3)
  have hc4_n : ∀ n, ¬ (d, n) = rc4 := fun n => nm_ne (ne_of_arr hfr hc4)
  have hc4_d : ¬ rc4.1 = d := ne_of_arr hfr hc4
  have hc4_m : ∀ n, ¬ rc4 = (d, n) := fun n => nm_ne' (ne_of_arr hfr hc4)
  have hc5_n : ∀ n, ¬ (d, n) = rc5 := fun n => nm_ne (ne_of_arr hfr hc5)
  have hc5_d : ¬ rc5.1 = d := ne_of_arr hfr hc5
  have hc5_m : ∀ n, ¬ rc5 = (d, n) := fun n => nm_ne' (ne_of_arr hfr hc5)
  simp (maxSteps := 4000000) [hd0, hfr, hout, hcl, hcd, delA_none, hc3, hc3_n, hc3_d, hc3_m, hc4, hc4_n, hc4_d, hc4_m, hc5, hc5_n, hc5_d, hc5_m, Try.f145]
  refine (laws_szCellS _ lc3 (by omega) (by omega) oc3).useCK ?_
  simp only [cntC_own]
  by_cases k1 : ((c3.length + cntRs c3 : Nat) : Int) ≤ left
  case neg => rw [szV_neg k1]; simp (maxSteps := 4000000) [hd0, hfr, hout, hcl, hcd, delA_none, hc3, hc3_n, hc3_d, hc3_m, hc4, hc4_n, hc4_d, hc4_m, hc5, hc5_n, hc5_d, hc5_m]; try rw [szV_neg (by omega)]
  rw [szV_pos k1]
  obtain ⟨L1, hL1⟩ : ∃ L : Int, L = left - ((c3.length + cntRs c3 : Nat) : Int) := ⟨_, rfl⟩
  rw [← hL1]
  simp (maxSteps := 4000000) [hd0, hfr, hout, hcl, hcd, delA_none, hc3, hc3_n, hc3_d, hc3_m, hc4, hc4_n, hc4_d, hc4_m, hc5, hc5_n, hc5_d, hc5_m]
  refine ⟨fun h => by omega, fun _ => ?_⟩
  refine (laws_szCellS _ lc4 (by omega) (by omega) oc4).useCK ?_
  simp only [cntC_own]
  by_cases k2 : ((c4.length + cntRs c4 : Nat) : Int) ≤ L1
  case neg => rw [szV_neg k2]; simp (maxSteps := 4000000) [hd0, hfr, hout, hcl, hcd, delA_none, hc3, hc3_n, hc3_d, hc3_m, hc4, hc4_n, hc4_d, hc4_m, hc5, hc5_n, hc5_d, hc5_m]; try rw [szV_neg (by omega)]
  rw [szV_pos k2]
  obtain ⟨L2, hL2⟩ : ∃ L : Int, L = L1 - ((c4.length + cntRs c4 : Nat) : Int) := ⟨_, rfl⟩
  rw [← hL2]
  simp (maxSteps := 4000000) [hd0, hfr, hout, hcl, hcd, delA_none, hc3, hc3_n, hc3_d, hc3_m, hc4, hc4_n, hc4_d, hc4_m, hc5, hc5_n, hc5_d, hc5_m]
  refine ⟨fun h => by omega, fun _ => ?_⟩
  refine (laws_szInt64S _ lc5 (by omega) (by omega) oc5).useCK ?_
  simp only [cntC_own]
  by_cases k3 : ((c5.length + cntRs c5 : Nat) : Int) ≤ L2
  case neg => rw [szV_neg k3]; simp (maxSteps := 4000000) [hd0, hfr, hout, hcl, hcd, delA_none, hc3, hc3_n, hc3_d, hc3_m, hc4, hc4_n, hc4_d, hc4_m, hc5, hc5_n, hc5_d, hc5_m]; try rw [szV_neg (by omega)]
  rw [szV_pos k3]
  obtain ⟨L3, hL3⟩ : ∃ L : Int, L = L2 - ((c5.length + cntRs c5 : Nat) : Int) := ⟨_, rfl⟩
  rw [← hL3]
  simp (maxSteps := 4000000) [hd0, hfr, hout, hcl, hcd, delA_none, hc3, hc3_n, hc3_d, hc3_m, hc4, hc4_n, hc4_d, hc4_m, hc5, hc5_n, hc5_d, hc5_m]
  first | (intro h; omega) | (refine ⟨fun h => by omega, fun _ => ?_⟩; rw [szV_pos (by omega)]; omega)

theorem laws_szCopiedS (H : HH) {r q} {rows : List (List Cell)} {left : Int} (hn : rows.length ≤ 9223372036854775807) (h1 : 0 ≤ left) (h2 : left ≤ 1048576) (ok : ∀ x ∈ rows, okCopied 9223372036854775807 x) (ha : arrAt H r q = some (6, rows)) : PFun Try.prog 77 [.c (.sl r q 6 0 rows.length), I left] H (I (szV (cntC (.own 6 rows)) left)) := by
  rw [cntC_own]
  refine PFun.of [0, 1, 4, 5, 11, 15, 25] Try.func77 rfl (by simp [Try.f77]) ?_
  intro d hd0 hfr hcl hout
  have hcd : ∀ n q, CleanH (hit [((d, n), q)]) H := fun n q => hcl.at
  have ha_n : ∀ n, ¬ (d, n) = r := fun n => nm_ne (ne_of_arr hfr ha)
  have ha_d : ¬ r.1 = d := ne_of_arr hfr ha
  have ha_m : ∀ n, ¬ r = (d, n) := fun n => nm_ne' (ne_of_arr hfr ha)
  simp (maxSteps := 4000000) [hd0, hfr, hout, hcl, hcd, delA_none, ha, ha_n, ha_d, ha_m, Try.f77]
  have w : IntKind.i64.wrap (left - rows.length) = left - rows.length := w64 (by omega) (by omega)
  simp (maxSteps := 4000000) [hd0, hfr, hout, hcl, hcd, delA_none, ha, ha_n, ha_d, ha_m, w]
  refine ⟨fun h => by rw [szV_neg (by push_cast; omega)], fun h => ?_⟩
  refine LoopK.intro (fun m s => ∃ i : Nat, i + m = rows.length ∧ (rows.length : Int) + cntRs (rows.take i) ≤ left ∧ s = ⟨[(0, .c (.sl r q 6 0 rows.length)), (1, I (left - rows.length - cntRs (rows.take i))), (5, I i)], H, []⟩) (rows.length + 1)
    (LK.intro rows.length [0, 1, 5] [] (by omega) (by decide) (by simp (maxSteps := 4000000) [hd0, hfr, hout, hcl, hcd, delA_none, ha, ha_n, ha_d, ha_m]) ⟨0, by omega, by simp [cntRs]; omega, by simp [cntRs]⟩) ?_
  rintro m s ⟨i, him, hle, rfl⟩
  simp (maxSteps := 4000000) [hd0, hfr, hout, hcl, hcd, delA_none, ha, ha_n, ha_d, ha_m]
  constructor
  · intro hi
    have hi' : i < rows.length := by omega
    have w1 : IntKind.i64.wrap ((i : Int) + 1) = i + 1 := w64 (by omega) (by omega)
    have hx' := ok _ (List.getElem_mem hi')
    have ht := cntRs_take hi'
    have hle2 := cntRs_split (rows := rows) (i := i + 1)
    have hok := hx'
    obtain ⟨a0, a1, a2, c3, c4, c5, hx, lc3, oc3, lc4, oc4, lc5, oc5⟩ := hx'
    rw [hx] at hok
    have sc3 := arrAt_sub ha (List.getElem?_eq_getElem hi') (f := 3) (by rw [hx]; rfl)
    have sc4 := arrAt_sub ha (List.getElem?_eq_getElem hi') (f := 4) (by rw [hx]; rfl)
    have sc5 := arrAt_sub ha (List.getElem?_eq_getElem hi') (f := 5) (by rw [hx]; rfl)
    simp (maxSteps := 4000000) [hd0, hfr, hout, hcl, hcd, delA_none, ha, ha_n, ha_d, ha_m, hi', hx]
    refine (laws_szCopied _ hok (Refs_v.2 ⟨_, rfl, Refs_v.2 ⟨_, rfl, Refs_v.2 ⟨_, rfl, Refs_own.2 ⟨_, _, _, rfl, by simp (maxSteps := 4000000) [hd0, hfr, hout, hcl, hcd, delA_none, ha, ha_n, ha_d, ha_m, sc3], Refs_own.2 ⟨_, _, _, rfl, by simp (maxSteps := 4000000) [hd0, hfr, hout, hcl, hcd, delA_none, ha, ha_n, ha_d, ha_m, sc4], Refs_own.2 ⟨_, _, _, rfl, by simp (maxSteps := 4000000) [hd0, hfr, hout, hcl, hcd, delA_none, ha, ha_n, ha_d, ha_m, sc5], Refs_nil.2 rfl⟩⟩⟩⟩⟩⟩) (by omega) (by omega)).useCK ?_
    rw [hx] at ht
    by_cases hc : (cntR [.v (.int .i64 a0), .v (.int .i64 a1), .v (.int .i64 a2), .own 2 c3, .own 2 c4, .own 1 c5] : Int) ≤ left - rows.length - cntRs (rows.take i)
    · rw [szV_pos hc]
      simp (maxSteps := 4000000) [hd0, hfr, hout, hcl, hcd, delA_none, ha, ha_n, ha_d, ha_m, w1]
      refine ⟨fun h => by omega, fun _ => ?_⟩
      exact LK.intro (m - 1) [0, 1, 5] [] (by omega) (by decide) (by simp (maxSteps := 4000000) [hd0, hfr, hout, hcl, hcd, delA_none, ha, ha_n, ha_d, ha_m]) ⟨i + 1, by omega, by omega, by simp; omega⟩
    · rw [szV_neg hc]
      simp (maxSteps := 4000000) [hd0, hfr, hout, hcl, hcd, delA_none, ha, ha_n, ha_d, ha_m]
      rw [szV_neg (by push_cast; omega)]
  · intro h
    rw [cntRs_all (by omega)] at hle ⊢
    try simp (maxSteps := 4000000) [hd0, hfr, hout, hcl, hcd, delA_none, ha, ha_n, ha_d, ha_m]
    rw [szV_pos (by push_cast; omega)]; push_cast; omega

theorem laws_szCopies (H : HH) {row cs : List Cell} {left : Int} (ok : okCopies 9223372036854775807 row) (hr : Refs H row cs) (h1 : 0 ≤ left) (h2 : left ≤ 1048576) : PFun Try.prog 14 [.a cs, I left] H (I (szV (cntR row) left)) := by
  obtain ⟨a0, a1, c2, c3, c4, rfl, lc2, oc2, lc3, oc3, lc4, oc4⟩ := ok
  simp only [Refs_v, Refs_own, Refs_nil] at hr
  obtain ⟨_, rfl, _, rfl, rc2, qc2, _, rfl, hc2, rc3, qc3, _, rfl, hc3, rc4, qc4, _, rfl, hc4, rfl⟩ := hr
  simp only [cntR_cons, cntR_nil, cntC_v, cntC_own]
  refine PFun.of [1, 2, 4, 10, 16, 22] Try.func14 rfl (by simp [Try.f14]) ?_
  intro d hd0 hfr hcl hout
  have hcd : ∀ n q, CleanH (hit [((d, n), q)]) H := fun n q => hcl.at
  have hc2_n : ∀ n, ¬ (d, n) = rc2 := fun n => nm_ne (ne_of_arr hfr hc2)
  have hc2_d : ¬ rc2.1 = d := ne_of_arr hfr hc2
  have hc2_m : ∀ n, ¬ rc2 = (d, n) := fun n => nm_ne' (ne_of_arr hfr hc2)
  have hc3_n : ∀ n, ¬ (d, n) = rc3 := fun n => nm_ne (ne_of_arr hfr hc3)
  have hc3_d : ¬ rc3.1 = d := ne_of_arr hfr hc3
  have hc3_m : ∀ n, ¬ rc3 = (d, n) := fun n => nm_ne' (ne_of_arr hfr hc3)
  have hc4_n : ∀ n, ¬ (d, n) = rc4 := fun n => nm_ne (ne_of_arr hfr hc4)
  have hc4_d : ¬ rc4.1 = d := ne_of_arr hfr hc4
  have hc4_m : ∀ n, ¬ rc4 = (d, n) := fun n => nm_ne' (ne_of_arr hfr hc4)
  simp (maxSteps := 4000000) [hd0, hfr, hout, hcl, hcd, delA_none, hc2, hc2_n, hc2_d, hc2_m, hc3, hc3_n, hc3_d, hc3_m, hc4, hc4_n, hc4_d, hc4_m, Try.f14]
  refine (laws_szCellS _ lc2 (by omega) (by omega) oc2).useCK ?_
  simp only [cntC_own]
  by_cases k1 : ((c2.length + cntRs c2 : Nat) : Int) ≤ left
  case neg => rw [szV_neg k1]; simp (maxSteps := 4000000) [hd0, hfr, hout, hcl, hcd, delA_none, hc2, hc2_n, hc2_d, hc2_m, hc3, hc3_n, hc3_d, hc3_m, hc4, hc4_n, hc4_d, hc4_m]; try rw [szV_neg (by omega)]
  rw [szV_pos k1]
  obtain ⟨L1, hL1⟩ : ∃ L : Int, L = left - ((c2.length + cntRs c2 : Nat) : Int) := ⟨_, rfl⟩
  rw [← hL1]
  simp (maxSteps := 4000000) [hd0, hfr, hout, hcl, hcd, delA_none, hc2, hc2_n, hc2_d, hc2_m, hc3, hc3_n, hc3_d, hc3_m, hc4, hc4_n, hc4_d, hc4_m]
  refine ⟨fun h => by omega, fun _ => ?_⟩
  refine (laws_szInt64S _ lc3 (by omega) (by omega) oc3).useCK ?_
  simp only [cntC_own]
  by_cases k2 : ((c3.length + cntRs c3 : Nat) : Int) ≤ L1
  case neg => rw [szV_neg k2]; simp (maxSteps := 4000000) [hd0, hfr, hout, hcl, hcd, delA_none, hc2, hc2_n, hc2_d, hc2_m, hc3, hc3_n, hc3_d, hc3_m, hc4, hc4_n, hc4_d, hc4_m]; try rw [szV_neg (by omega)]
  rw [szV_pos k2]
  obtain ⟨L2, hL2⟩ : ∃ L : Int, L = L1 - ((c3.length + cntRs c3 : Nat) : Int) := ⟨_, rfl⟩
  rw [← hL2]
  simp (maxSteps := 4000000) [hd0, hfr, hout, hcl, hcd, delA_none, hc2, hc2_n, hc2_d, hc2_m, hc3, hc3_n, hc3_d, hc3_m, hc4, hc4_n, hc4_d, hc4_m]
  refine ⟨fun h => by omega, fun _ => ?_⟩
  refine (laws_szCopiedS _ lc4 (by omega) (by omega) oc4 (by simp (maxSteps := 4000000) [hd0, hfr, hout, hcl, hcd, delA_none, hc2, hc2_n, hc2_d, hc2_m, hc3, hc3_n, hc3_d, hc3_m, hc4, hc4_n, hc4_d, hc4_m])).useCK ?_
  simp only [cntC_own]
  by_cases k3 : ((c4.length + cntRs c4 : Nat) : Int) ≤ L2
  case neg => rw [szV_neg k3]; simp (maxSteps := 4000000) [hd0, hfr, hout, hcl, hcd, delA_none, hc2, hc2_n, hc2_d, hc2_m, hc3, hc3_n, hc3_d, hc3_m, hc4, hc4_n, hc4_d, hc4_m]; try rw [szV_neg (by omega)]
  rw [szV_pos k3]
  obtain ⟨L3, hL3⟩ : ∃ L : Int, L = L2 - ((c4.length + cntRs c4 : Nat) : Int) := ⟨_, rfl⟩
  rw [← hL3]
  simp (maxSteps := 4000000) [hd0, hfr, hout, hcl, hcd, delA_none, hc2, hc2_n, hc2_d, hc2_m, hc3, hc3_n, hc3_d, hc3_m, hc4, hc4_n, hc4_d, hc4_m]
  first | (intro h; omega) | (refine ⟨fun h => by omega, fun _ => ?_⟩; rw [szV_pos (by omega)]; omega)

theorem laws_toCell (H : HH) {row cs : List Cell} (ok : okCell 1048576 row) (hr : Refs H row cs) : PFun Try.prog 148 [.a cs] H (.a row) := by
  obtain ⟨a0, a1, rfl⟩ := ok
  simp only [Refs_v, Refs_own, Refs_nil] at hr
  obtain ⟨_, rfl, _, rfl, rfl⟩ := hr
  refine PFun.of [1, 2, 3] Try.func148 rfl (by simp [Try.f148]) ?_
  intro d hd0 hfr hcl hout
  have hcd : ∀ n q, CleanH (hit [((d, n), q)]) H := fun n q => hcl.at
  simp (maxSteps := 4000000) [hd0, hfr, hout, hcl, hcd, delA_none, Try.f148]

theorem laws_toCellS (H : HH) {r q} {rows : List (List Cell)} (hb : rows.length ≤ 1048576) (ok : ∀ x ∈ rows, okCell 1048576 x) (ha : arrAt H r q = some (2, rows)) : PFun Try.prog 82 [.c (.sl r q 2 0 rows.length)] H (.c (.own 2 rows)) := by
  refine PFun.of [0, 2, 3, 4, 11] Try.func82 rfl (by simp [Try.f82]) ?_
  intro d hd0 hfr hcl hout
  have hcd : ∀ n q, CleanH (hit [((d, n), q)]) H := fun n q => hcl.at
  have ha_n : ∀ n, ¬ (d, n) = r := fun n => nm_ne (ne_of_arr hfr ha)
  have ha_d : ¬ r.1 = d := ne_of_arr hfr ha
  have ha_m : ∀ n, ¬ r = (d, n) := fun n => nm_ne' (ne_of_arr hfr ha)
  simp (maxSteps := 4000000) [hd0, hfr, hout, hcl, hcd, delA_none, ha, ha_n, ha_d, ha_m, Try.f82]
  have hp : ∀ K, CleanRows K rows := fun K x hx => okCell_pure (ok x hx) K
  refine ⟨by omega, ?_⟩
  refine LoopK.intro (fun m s => ∃ i : Nat, i + m = rows.length ∧ s = ⟨[(0, .c (.sl r q 2 0 rows.length)), (3, .c (.sl (d, 3) [] 2 0 rows.length)), (4, I i)], ((d, 3), .own 2 (upTo [.v (.int .i64 0), .v (.int .i64 0)] rows i)) :: H, []⟩) (rows.length + 1)
    (LK.intro rows.length [0, 3, 4] [2] (by omega) (by decide) (by simp (maxSteps := 4000000) [hd0, hfr, hout, hcl, hcd, delA_none, ha, ha_n, ha_d, ha_m]) ⟨0, by simp [upTo_zero]⟩) ?_
  rintro m s ⟨i, him, rfl⟩
  simp (maxSteps := 4000000) [hd0, hfr, hout, hcl, hcd, delA_none, ha, ha_n, ha_d, ha_m]
  constructor
  · intro hi
    have hi' : i < rows.length := by omega
    have w1 : IntKind.i64.wrap ((i : Int) + 1) = i + 1 := w64 (by omega) (by omega)
    have hok := ok _ (List.getElem_mem hi')
    have hs := upTo_set (r := [.v (.int .i64 0), .v (.int .i64 0)]) hi'
    have hat := upTo_at (r := [.v (.int .i64 0), .v (.int .i64 0)]) hi'
    have hatx := ix_of hat
    have hok' := hok
    obtain ⟨a0, a1, hx⟩ := hok
    rw [hx] at hok' hs
    simp (maxSteps := 4000000) [hd0, hfr, hout, hcl, hcd, delA_none, ha, ha_n, ha_d, ha_m, hi', hx]
    refine (laws_toCell _ hok' (Refs_v.2 ⟨_, rfl, Refs_v.2 ⟨_, rfl, Refs_nil.2 rfl⟩⟩)).useCK ?_
    simp (maxSteps := 4000000) [hd0, hfr, hout, hcl, hcd, delA_none, ha, ha_n, ha_d, ha_m, hi', hx, hatx, upTo_length, w1, hs, hp, CleanRows_upTo]
    exact LK.intro (m - 1) [0, 3, 4] [] (by omega) (by decide) (by simp (maxSteps := 4000000) [hd0, hfr, hout, hcl, hcd, delA_none, ha, ha_n, ha_d, ha_m]) ⟨i + 1, by omega, by simp [hs]⟩
  · intro h
    simp (maxSteps := 4000000) [hd0, hfr, hout, hcl, hcd, delA_none, ha, ha_n, ha_d, ha_m, upTo_all h, hp]

theorem laws_toInt64S (H : HH) {r q} {rows : List (List Cell)} (hb : rows.length ≤ 1048576) (ok : ∀ x ∈ rows, okI64 x) (ha : arrAt H r q = some (1, rows)) : PFun Try.prog 51 [.c (.sl r q 1 0 rows.length)] H (.c (.own 1 rows)) := by
  refine PFun.of [0, 2, 3, 4, 11] Try.func51 rfl (by simp [Try.f51]) ?_
  intro d hd0 hfr hcl hout
  have hcd : ∀ n q, CleanH (hit [((d, n), q)]) H := fun n q => hcl.at
  have ha_n : ∀ n, ¬ (d, n) = r := fun n => nm_ne (ne_of_arr hfr ha)
  have ha_d : ¬ r.1 = d := ne_of_arr hfr ha
  have ha_m : ∀ n, ¬ r = (d, n) := fun n => nm_ne' (ne_of_arr hfr ha)
  simp (maxSteps := 4000000) [hd0, hfr, hout, hcl, hcd, delA_none, ha, ha_n, ha_d, ha_m, Try.f51]
  have hp : ∀ K, CleanRows K rows := fun K x hx => okI64_pure (ok x hx) K
  refine ⟨by omega, ?_⟩
  refine LoopK.intro (fun m s => ∃ i : Nat, i + m = rows.length ∧ s = ⟨[(0, .c (.sl r q 1 0 rows.length)), (3, .c (.sl (d, 3) [] 1 0 rows.length)), (4, I i)], ((d, 3), .own 1 (upTo [.v (.int .i64 0)] rows i)) :: H, []⟩) (rows.length + 1)
    (LK.intro rows.length [0, 3, 4] [2] (by omega) (by decide) (by simp (maxSteps := 4000000) [hd0, hfr, hout, hcl, hcd, delA_none, ha, ha_n, ha_d, ha_m]) ⟨0, by simp [upTo_zero]⟩) ?_
  rintro m s ⟨i, him, rfl⟩
  simp (maxSteps := 4000000) [hd0, hfr, hout, hcl, hcd, delA_none, ha, ha_n, ha_d, ha_m]
  constructor
  · intro hi
    have hi' : i < rows.length := by omega
    have w1 : IntKind.i64.wrap ((i : Int) + 1) = i + 1 := w64 (by omega) (by omega)
    have hok := ok _ (List.getElem_mem hi')
    have hs := upTo_set (r := [.v (.int .i64 0)]) hi'
    have hat := upTo_at (r := [.v (.int .i64 0)]) hi'
    have hatx := ix_of hat
    obtain ⟨x0, hx⟩ := hok
    rw [hx] at hs
    simp (maxSteps := 4000000) [hd0, hfr, hout, hcl, hcd, delA_none, ha, ha_n, ha_d, ha_m, hi', hx, upTo_length, hatx, w1, hs]
    exact LK.intro (m - 1) [0, 3, 4] [] (by omega) (by decide) (by simp (maxSteps := 4000000) [hd0, hfr, hout, hcl, hcd, delA_none, ha, ha_n, ha_d, ha_m]) ⟨i + 1, by omega, by simp [hs]⟩
  · intro h
    simp (maxSteps := 4000000) [hd0, hfr, hout, hcl, hcd, delA_none, ha, ha_n, ha_d, ha_m, upTo_all h, hp]

theorem laws_toCopied (H : HH) {row cs : List Cell} (ok : okCopied 1048576 row) (hr : Refs H row cs) : PFun Try.prog 149 [.a cs] H (.a row) := by
  obtain ⟨a0, a1, a2, c3, c4, c5, rfl, lc3, oc3, lc4, oc4, lc5, oc5⟩ := ok
  simp only [Refs_v, Refs_own, Refs_nil] at hr
  obtain ⟨_, rfl, _, rfl, _, rfl, rc3, qc3, _, rfl, hc3, rc4, qc4, _, rfl, hc4, rc5, qc5, _, rfl, hc5, rfl⟩ := hr
  have pc3 : ∀ K, CleanRows K c3 := fun K x hx => okCell_pure (oc3 x hx) K
  have pc4 : ∀ K, CleanRows K c4 := fun K x hx => okCell_pure (oc4 x hx) K
  have pc5 : ∀ K, CleanRows K c5 := fun K x hx => okI64_pure (oc5 x hx) K
  refine PFun.of [1, 2, 3] Try.func149 rfl (by simp [Try.f149]) ?_
  intro d hd0 hfr hcl hout
  have hcd : ∀ n q, CleanH (hit [((d, n), q)]) H := fun n q => hcl.at
  have hc3_n : ∀ n, ¬ (d, n) = rc3 := fun n => nm_ne (ne_of_arr hfr hc3)
  have hc3_d : ¬ rc3.1 = d := ne_of_arr hfr hc3
  have hc3_m : ∀ n, ¬ rc3 = (d, n) := fun n => nm_ne' (ne_of_arr hfr hc3)
  have hc4_n : ∀ n, ¬ (d, n) = rc4 := fun n => nm_ne (ne_of_arr hfr hc4)
  have hc4_d : ¬ rc4.1 = d := ne_of_arr hfr hc4
  have hc4_m : ∀ n, ¬ rc4 = (d, n) := fun n => nm_ne' (ne_of_arr hfr hc4)
  have hc5_n : ∀ n, ¬ (d, n) = rc5 := fun n => nm_ne (ne_of_arr hfr hc5)
  have hc5_d : ¬ rc5.1 = d := ne_of_arr hfr hc5
  have hc5_m : ∀ n, ¬ rc5 = (d, n) := fun n => nm_ne' (ne_of_arr hfr hc5)
  simp (maxSteps := 4000000) [hd0, hfr, hout, hcl, hcd, delA_none, hc3, hc3_n, hc3_d, hc3_m, hc4, hc4_n, hc4_d, hc4_m, hc5, hc5_n, hc5_d, hc5_m, Try.f149]
  refine (laws_toCellS _ lc3 oc3 (by simp (maxSteps := 4000000) [hd0, hfr, hout, hcl, hcd, delA_none, hc3, hc3_n, hc3_d, hc3_m, hc4, hc4_n, hc4_d, hc4_m, hc5, hc5_n, hc5_d, hc5_m])).useCK ?_
  simp (maxSteps := 4000000) [hd0, hfr, hout, hcl, hcd, delA_none, hc3, hc3_n, hc3_d, hc3_m, hc4, hc4_n, hc4_d, hc4_m, hc5, hc5_n, hc5_d, hc5_m, pc3, pc4, pc5]
  refine (laws_toCellS _ lc4 oc4 (by simp (maxSteps := 4000000) [hd0, hfr, hout, hcl, hcd, delA_none, hc3, hc3_n, hc3_d, hc3_m, hc4, hc4_n, hc4_d, hc4_m, hc5, hc5_n, hc5_d, hc5_m])).useCK ?_
  simp (maxSteps := 4000000) [hd0, hfr, hout, hcl, hcd, delA_none, hc3, hc3_n, hc3_d, hc3_m, hc4, hc4_n, hc4_d, hc4_m, hc5, hc5_n, hc5_d, hc5_m, pc3, pc4, pc5]
  refine (laws_toInt64S _ lc5 oc5 (by simp (maxSteps := 4000000) [hd0, hfr, hout, hcl, hcd, delA_none, hc3, hc3_n, hc3_d, hc3_m, hc4, hc4_n, hc4_d, hc4_m, hc5, hc5_n, hc5_d, hc5_m])).useCK ?_
  simp (maxSteps := 4000000) [hd0, hfr, hout, hcl, hcd, delA_none, hc3, hc3_n, hc3_d, hc3_m, hc4, hc4_n, hc4_d, hc4_m, hc5, hc5_n, hc5_d, hc5_m, pc3, pc4, pc5]

theorem laws_toCopiedS (H : HH) {r q} {rows : List (List Cell)} (hb : rows.length ≤ 1048576) (ok : ∀ x ∈ rows, okCopied 1048576 x) (ha : arrAt H r q = some (6, rows)) : PFun Try.prog 83 [.c (.sl r q 6 0 rows.length)] H (.c (.own 6 rows)) := by
  refine PFun.of [0, 2, 3, 4, 11] Try.func83 rfl (by simp [Try.f83]) ?_
  intro d hd0 hfr hcl hout
  have hcd : ∀ n q, CleanH (hit [((d, n), q)]) H := fun n q => hcl.at
  have ha_n : ∀ n, ¬ (d, n) = r := fun n => nm_ne (ne_of_arr hfr ha)
  have ha_d : ¬ r.1 = d := ne_of_arr hfr ha
  have ha_m : ∀ n, ¬ r = (d, n) := fun n => nm_ne' (ne_of_arr hfr ha)
  simp (maxSteps := 4000000) [hd0, hfr, hout, hcl, hcd, delA_none, ha, ha_n, ha_d, ha_m, Try.f83]
  have hp : ∀ K, CleanRows K rows := fun K x hx => okCopied_pure (ok x hx) K
  refine ⟨by omega, ?_⟩
  refine LoopK.intro (fun m s => ∃ i : Nat, i + m = rows.length ∧ s = ⟨[(0, .c (.sl r q 6 0 rows.length)), (3, .c (.sl (d, 3) [] 6 0 rows.length)), (4, I i)], ((d, 3), .own 6 (upTo [.v (.int .i64 0), .v (.int .i64 0), .v (.int .i64 0), .own 2 [], .own 2 [], .own 1 []] rows i)) :: H, []⟩) (rows.length + 1)
    (LK.intro rows.length [0, 3, 4] [2] (by omega) (by decide) (by simp (maxSteps := 4000000) [hd0, hfr, hout, hcl, hcd, delA_none, ha, ha_n, ha_d, ha_m]) ⟨0, by simp [upTo_zero]⟩) ?_
  rintro m s ⟨i, him, rfl⟩
  simp (maxSteps := 4000000) [hd0, hfr, hout, hcl, hcd, delA_none, ha, ha_n, ha_d, ha_m]
  constructor
  · intro hi
    have hi' : i < rows.length := by omega
    have w1 : IntKind.i64.wrap ((i : Int) + 1) = i + 1 := w64 (by omega) (by omega)
    have hok := ok _ (List.getElem_mem hi')
    have hs := upTo_set (r := [.v (.int .i64 0), .v (.int .i64 0), .v (.int .i64 0), .own 2 [], .own 2 [], .own 1 []]) hi'
    have hat := upTo_at (r := [.v (.int .i64 0), .v (.int .i64 0), .v (.int .i64 0), .own 2 [], .own 2 [], .own 1 []]) hi'
    have hatx := ix_of hat
    have hok' := hok
    obtain ⟨a0, a1, a2, c3, c4, c5, hx, lc3, oc3, lc4, oc4, lc5, oc5⟩ := hok
    rw [hx] at hok' hs
    have pc3 : ∀ K, CleanRows K c3 := fun K x hx => okCell_pure (oc3 x hx) K
    have pc4 : ∀ K, CleanRows K c4 := fun K x hx => okCell_pure (oc4 x hx) K
    have pc5 : ∀ K, CleanRows K c5 := fun K x hx => okI64_pure (oc5 x hx) K
    have sc3 := arrAt_sub ha (List.getElem?_eq_getElem hi') (f := 3) (by rw [hx]; rfl)
    have sc4 := arrAt_sub ha (List.getElem?_eq_getElem hi') (f := 4) (by rw [hx]; rfl)
    have sc5 := arrAt_sub ha (List.getElem?_eq_getElem hi') (f := 5) (by rw [hx]; rfl)
    simp (maxSteps := 4000000) [hd0, hfr, hout, hcl, hcd, delA_none, ha, ha_n, ha_d, ha_m, hi', hx]
    refine (laws_toCopied _ hok' (Refs_v.2 ⟨_, rfl, Refs_v.2 ⟨_, rfl, Refs_v.2 ⟨_, rfl, Refs_own.2 ⟨_, _, _, rfl, by simp (maxSteps := 4000000) [hd0, hfr, hout, hcl, hcd, delA_none, ha, ha_n, ha_d, ha_m, sc3], Refs_own.2 ⟨_, _, _, rfl, by simp (maxSteps := 4000000) [hd0, hfr, hout, hcl, hcd, delA_none, ha, ha_n, ha_d, ha_m, sc4], Refs_own.2 ⟨_, _, _, rfl, by simp (maxSteps := 4000000) [hd0, hfr, hout, hcl, hcd, delA_none, ha, ha_n, ha_d, ha_m, sc5], Refs_nil.2 rfl⟩⟩⟩⟩⟩⟩)).useCK ?_
    simp (maxSteps := 4000000) [hd0, hfr, hout, hcl, hcd, delA_none, ha, ha_n, ha_d, ha_m, hi', hx, hatx, upTo_length, w1, hs, hp, CleanRows_upTo, pc3, pc4, pc5]
    exact LK.intro (m - 1) [0, 3, 4] [] (by omega) (by decide) (by simp (maxSteps := 4000000) [hd0, hfr, hout, hcl, hcd, delA_none, ha, ha_n, ha_d, ha_m]) ⟨i + 1, by omega, by simp [hs]⟩
  · intro h
    simp (maxSteps := 4000000) [hd0, hfr, hout, hcl, hcd, delA_none, ha, ha_n, ha_d, ha_m, upTo_all h, hp]

theorem laws_toCopies (H : HH) {row cs : List Cell} (ok : okCopies 1048576 row) (hr : Refs H row cs) : PFun Try.prog 16 [.a cs] H (.a row) := by
  obtain ⟨a0, a1, c2, c3, c4, rfl, lc2, oc2, lc3, oc3, lc4, oc4⟩ := ok
  simp only [Refs_v, Refs_own, Refs_nil] at hr
  obtain ⟨_, rfl, _, rfl, rc2, qc2, _, rfl, hc2, rc3, qc3, _, rfl, hc3, rc4, qc4, _, rfl, hc4, rfl⟩ := hr
  have pc2 : ∀ K, CleanRows K c2 := fun K x hx => okCell_pure (oc2 x hx) K
  have pc3 : ∀ K, CleanRows K c3 := fun K x hx => okI64_pure (oc3 x hx) K
  have pc4 : ∀ K, CleanRows K c4 := fun K x hx => okCopied_pure (oc4 x hx) K
  refine PFun.of [1, 2, 3] Try.func16 rfl (by simp [Try.f16]) ?_
  intro d hd0 hfr hcl hout
  have hcd : ∀ n q, CleanH (hit [((d, n), q)]) H := fun n q => hcl.at
  have hc2_n : ∀ n, ¬ (d, n) = rc2 := fun n => nm_ne (ne_of_arr hfr hc2)
  have hc2_d : ¬ rc2.1 = d := ne_of_arr hfr hc2
  have hc2_m : ∀ n, ¬ rc2 = (d, n) := fun n => nm_ne' (ne_of_arr hfr hc2)
  have hc3_n : ∀ n, ¬ (d, n) = rc3 := fun n => nm_ne (ne_of_arr hfr hc3)
  have hc3_d : ¬ rc3.1 = d := ne_of_arr hfr hc3
  have hc3_m : ∀ n, ¬ rc3 = (d, n) := fun n => nm_ne' (ne_of_arr hfr hc3)
  have hc4_n : ∀ n, ¬ (d, n) = rc4 := fun n => nm_ne (ne_of_arr hfr hc4)
  have hc4_d : ¬ rc4.1 = d := ne_of_arr hfr hc4
  have hc4_m : ∀ n, ¬ rc4 = (d, n) := fun n => nm_ne' (ne_of_arr hfr hc4)
  simp (maxSteps := 4000000) [hd0, hfr, hout, hcl, hcd, delA_none, hc2, hc2_n, hc2_d, hc2_m, hc3, hc3_n, hc3_d, hc3_m, hc4, hc4_n, hc4_d, hc4_m, Try.f16]
  refine (laws_toCellS _ lc2 oc2 (by simp (maxSteps := 4000000) [hd0, hfr, hout, hcl, hcd, delA_none, hc2, hc2_n, hc2_d, hc2_m, hc3, hc3_n, hc3_d, hc3_m, hc4, hc4_n, hc4_d, hc4_m])).useCK ?_
  simp (maxSteps := 4000000) [hd0, hfr, hout, hcl, hcd, delA_none, hc2, hc2_n, hc2_d, hc2_m, hc3, hc3_n, hc3_d, hc3_m, hc4, hc4_n, hc4_d, hc4_m, pc2, pc3, pc4]
  refine (laws_toInt64S _ lc3 oc3 (by simp (maxSteps := 4000000) [hd0, hfr, hout, hcl, hcd, delA_none, hc2, hc2_n, hc2_d, hc2_m, hc3, hc3_n, hc3_d, hc3_m, hc4, hc4_n, hc4_d, hc4_m])).useCK ?_
  simp (maxSteps := 4000000) [hd0, hfr, hout, hcl, hcd, delA_none, hc2, hc2_n, hc2_d, hc2_m, hc3, hc3_n, hc3_d, hc3_m, hc4, hc4_n, hc4_d, hc4_m, pc2, pc3, pc4]
  refine (laws_toCopiedS _ lc4 oc4 (by simp (maxSteps := 4000000) [hd0, hfr, hout, hcl, hcd, delA_none, hc2, hc2_n, hc2_d, hc2_m, hc3, hc3_n, hc3_d, hc3_m, hc4, hc4_n, hc4_d, hc4_m])).useCK ?_
  simp (maxSteps := 4000000) [hd0, hfr, hout, hcl, hcd, delA_none, hc2, hc2_n, hc2_d, hc2_m, hc3, hc3_n, hc3_d, hc3_m, hc4, hc4_n, hc4_d, hc4_m, pc2, pc3, pc4]

end Go.Proofs.Ythejobdlfomcjaa


namespace Go.Px
set_option linter.unusedVariables false
def encI (n : Int) : List Cell := [.v (.int .i64 n)]
def encU8 (n : Int) : List Cell := [.v (.int .u8 n)]
def encB (n : Bool) : List Cell := [.v (.bool n)]
def encS {α : Type} (z : Nat) (e : α → List Cell) (l : List α) : List Cell := [.own z (l.map e)]
theorem encI_ok (n : Int) : okI64 (encI n) := ⟨n, rfl⟩
theorem encU8_ok (n : Int) : okU8 (encU8 n) := ⟨n, rfl⟩
theorem encS_to {α : Type} {z B : Nat} {e : α → List Cell} {y : List α} {p : List Cell → Prop} (h : ∃ c, encS z e y = [.own z c] ∧ c.length ≤ B ∧ ∀ x ∈ c, p x) : y.length ≤ B := by
  obtain ⟨c, h1, h2, h3⟩ := h
  simp only [encS, List.cons.injEq, Cell.own.injEq, and_true, true_and] at h1
  subst h1; simpa using h2
section
variable {K : Cell → Prop} {n : Int} {b : Bool} {α : Type} {z : Nat} {e : α → List Cell} {l : List α}
@[simp] theorem encI_clean : cells1 K (encI n) ↔ True := by simp [encI, Clean.v]
@[simp] theorem encU8_clean : cells1 K (encU8 n) ↔ True := by simp [encU8, Clean.v]
@[simp] theorem encB_clean : cells1 K (encB b) ↔ True := by simp [encB, Clean.v]
@[simp] theorem encS_clean : cells1 K (encS z e l) ↔ ∀ x ∈ l, cells1 K (e x) := by simp [encS]
end
end Go.Px

namespace Go.Proofs.Ythejobdlfomcjaa
open Go Go.Px Go.RowKit Go.Proofs
set_option linter.unnecessarySimpa false
set_option linter.unusedVariables false
set_option linter.unusedSimpArgs false
set_option maxRecDepth 100000
attribute [-simp] Int.not_le Int.not_lt
structure DCell where
  key : Int
  value : Int
def DCell.enc (x : DCell) : List Cell := [.v (.int .i64 x.key), .v (.int .i64 x.value)]
@[simp] theorem DCell.pure (x : DCell) : ∀ K, cells1 K x.enc := by intro K; simp [DCell.enc, Clean.v]
def DCell.wf (x : DCell) : Prop := (Lit.int .i64 x.key).wf = true ∧ (Lit.int .i64 x.value).wf = true
theorem DCell.ok (B : Nat) (x : DCell) : okCell B x.enc := ⟨x.key, x.value, rfl⟩
structure DCopied where
  id_ : Int
  at_ : Int
  state : Int
  start : List (DCell)
  now : List (DCell)
  wrote : List (Int)
def DCopied.enc (x : DCopied) : List Cell := [.v (.int .i64 x.id_), .v (.int .i64 x.at_), .v (.int .i64 x.state), .own 2 (x.start.map DCell.enc), .own 2 (x.now.map DCell.enc), .own 1 (x.wrote.map encI)]
@[simp] theorem DCopied.pure (x : DCopied) : ∀ K, cells1 K x.enc := by intro K; simp [DCopied.enc, Clean.v, DCell.pure, encI]
def DCopied.wf (x : DCopied) : Prop := (Lit.int .i64 x.id_).wf = true ∧ (Lit.int .i64 x.at_).wf = true ∧ (Lit.int .i64 x.state).wf = true ∧ (x.start.length ≤ maxLen ∧ ∀ y ∈ x.start, y.wf) ∧ (x.now.length ≤ maxLen ∧ ∀ y ∈ x.now, y.wf) ∧ (x.wrote.length ≤ maxLen ∧ ∀ y ∈ x.wrote, (Lit.int .i64 y).wf = true)
def DCopied.le (B : Nat) (x : DCopied) : Prop := (x.start.length ≤ B) ∧ (x.now.length ≤ B) ∧ (x.wrote.length ≤ B)
theorem DCopied.wf_le {x : DCopied} (h : x.wf) : x.le 9223372036854775807 := ⟨(h.2.2.2.1).1, (h.2.2.2.2.1).1, (h.2.2.2.2.2).1⟩
theorem DCopied.ok {B : Nat} {x : DCopied} : okCopied B x.enc ↔ DCopied.le B x := by
  constructor
  · rintro ⟨a0, a1, a2, c3, c4, c5, h, lc3, oc3, lc4, oc4, lc5, oc5⟩
    simp only [DCopied.enc, List.cons.injEq, Cell.v.injEq, Cell.own.injEq, Value.int.injEq, Value.bool.injEq, true_and, and_true] at h
    obtain ⟨rfl, rfl, rfl, rfl, rfl, rfl⟩ := h
    simp only [DCopied.le]; exact ⟨(by simpa using lc3), (by simpa using lc4), (by simpa using lc5)⟩
  · intro h
    simp only [DCopied.le] at h; obtain ⟨lc3, lc4, lc5⟩ := h; exact ⟨x.id_, x.at_, x.state, (x.start.map DCell.enc), (x.now.map DCell.enc), (x.wrote.map encI), rfl, (by simpa using lc3), (by intro r hr; obtain ⟨y, hy, rfl⟩ := List.mem_map.1 hr; exact DCell.ok _ y), (by simpa using lc4), (by intro r hr; obtain ⟨y, hy, rfl⟩ := List.mem_map.1 hr; exact DCell.ok _ y), (by simpa using lc5), (by intro r hr; obtain ⟨y, hy, rfl⟩ := List.mem_map.1 hr; exact ⟨y, rfl⟩)⟩
structure DCopies where
  next : Int
  clock : Int
  now : List (DCell)
  last : List (Int)
  txns : List (DCopied)
def DCopies.enc (x : DCopies) : List Cell := [.v (.int .i64 x.next), .v (.int .i64 x.clock), .own 2 (x.now.map DCell.enc), .own 1 (x.last.map encI), .own 6 (x.txns.map DCopied.enc)]
@[simp] theorem DCopies.pure (x : DCopies) : ∀ K, cells1 K x.enc := by intro K; simp [DCopies.enc, Clean.v, DCell.pure, DCopied.pure, encI]
def DCopies.wf (x : DCopies) : Prop := (Lit.int .i64 x.next).wf = true ∧ (Lit.int .i64 x.clock).wf = true ∧ (x.now.length ≤ maxLen ∧ ∀ y ∈ x.now, y.wf) ∧ (x.last.length ≤ maxLen ∧ ∀ y ∈ x.last, (Lit.int .i64 y).wf = true) ∧ (x.txns.length ≤ maxLen ∧ ∀ y ∈ x.txns, y.wf)
def DCopies.le (B : Nat) (x : DCopies) : Prop := (x.now.length ≤ B) ∧ (x.last.length ≤ B) ∧ (x.txns.length ≤ B ∧ ∀ y ∈ x.txns, DCopied.le B y)
theorem DCopies.wf_le {x : DCopies} (h : x.wf) : x.le 9223372036854775807 := ⟨(h.2.2.1).1, (h.2.2.2.1).1, ⟨(h.2.2.2.2).1, fun y hy => DCopied.wf_le (((h.2.2.2.2).2 y hy))⟩⟩
theorem DCopies.ok {B : Nat} {x : DCopies} : okCopies B x.enc ↔ DCopies.le B x := by
  constructor
  · rintro ⟨a0, a1, c2, c3, c4, h, lc2, oc2, lc3, oc3, lc4, oc4⟩
    simp only [DCopies.enc, List.cons.injEq, Cell.v.injEq, Cell.own.injEq, Value.int.injEq, Value.bool.injEq, true_and, and_true] at h
    obtain ⟨rfl, rfl, rfl, rfl, rfl⟩ := h
    simp only [DCopies.le]; exact ⟨(by simpa using lc2), (by simpa using lc3), ⟨by simpa using lc4, fun y hy => DCopied.ok.1 (oc4 _ (List.mem_map.2 ⟨y, hy, rfl⟩))⟩⟩
  · intro h
    simp only [DCopies.le] at h; obtain ⟨lc2, lc3, ⟨lc4, mc4⟩⟩ := h; exact ⟨x.next, x.clock, (x.now.map DCell.enc), (x.last.map encI), (x.txns.map DCopied.enc), rfl, (by simpa using lc2), (by intro r hr; obtain ⟨y, hy, rfl⟩ := List.mem_map.1 hr; exact DCell.ok _ y), (by simpa using lc3), (by intro r hr; obtain ⟨y, hy, rfl⟩ := List.mem_map.1 hr; exact ⟨y, rfl⟩), (by simpa using lc4), (by intro r hr; obtain ⟨y, hy, rfl⟩ := List.mem_map.1 hr; exact DCopied.ok.2 (mc4 y hy))⟩
structure DLoose where
  page : Int
  part : Int
  data : List (Int)
def DLoose.enc (x : DLoose) : List Cell := [.v (.int .i64 x.page), .v (.int .i64 x.part), .own 1 (x.data.map encU8)]
@[simp] theorem DLoose.pure (x : DLoose) : ∀ K, cells1 K x.enc := by intro K; simp [DLoose.enc, Clean.v, encU8]
def DLoose.wf (x : DLoose) : Prop := (Lit.int .i64 x.page).wf = true ∧ (Lit.int .i64 x.part).wf = true ∧ (x.data.length ≤ maxLen ∧ ∀ y ∈ x.data, (Lit.int .u8 y).wf = true)
def DLoose.le (B : Nat) (x : DLoose) : Prop := (x.data.length ≤ B)
theorem DLoose.wf_le {x : DLoose} (h : x.wf) : x.le 9223372036854775807 := (h.2.2).1
theorem DLoose.ok {B : Nat} {x : DLoose} : okLoose B x.enc ↔ DLoose.le B x := by
  constructor
  · rintro ⟨a0, a1, c2, h, lc2, oc2⟩
    simp only [DLoose.enc, List.cons.injEq, Cell.v.injEq, Cell.own.injEq, Value.int.injEq, Value.bool.injEq, true_and, and_true] at h
    obtain ⟨rfl, rfl, rfl⟩ := h
    simp only [DLoose.le]; exact (by simpa using lc2)
  · intro h
    simp only [DLoose.le] at h; have lc2 := h; exact ⟨x.page, x.part, (x.data.map encU8), rfl, (by simpa using lc2), (by intro r hr; obtain ⟨y, hy, rfl⟩ := List.mem_map.1 hr; exact ⟨y, rfl⟩)⟩
structure DDisk where
  pages : List (List (Int))
  loose : List (DLoose)
def DDisk.enc (x : DDisk) : List Cell := [.own 1 (x.pages.map (encS 1 encU8)), .own 3 (x.loose.map DLoose.enc)]
@[simp] theorem DDisk.pure (x : DDisk) : ∀ K, cells1 K x.enc := by intro K; simp [DDisk.enc, Clean.v, DLoose.pure, encS, encU8]
def DDisk.wf (x : DDisk) : Prop := (x.pages.length ≤ maxLen ∧ ∀ y ∈ x.pages, (y.length ≤ maxLen ∧ ∀ z ∈ y, (Lit.int .u8 z).wf = true)) ∧ (x.loose.length ≤ maxLen ∧ ∀ y ∈ x.loose, y.wf)
def DDisk.le (B : Nat) (x : DDisk) : Prop := (x.pages.length ≤ B ∧ ∀ y ∈ x.pages, (y.length ≤ B)) ∧ (x.loose.length ≤ B ∧ ∀ y ∈ x.loose, DLoose.le B y)
theorem DDisk.wf_le {x : DDisk} (h : x.wf) : x.le 9223372036854775807 := ⟨⟨(h.1).1, fun y hy => (((h.1).2 y hy)).1⟩, ⟨(h.2).1, fun y hy => DLoose.wf_le (((h.2).2 y hy))⟩⟩
theorem DDisk.ok {B : Nat} {x : DDisk} : okDisk B x.enc ↔ DDisk.le B x := by
  constructor
  · rintro ⟨c0, c1, h, lc0, oc0, lc1, oc1⟩
    simp only [DDisk.enc, List.cons.injEq, Cell.v.injEq, Cell.own.injEq, Value.int.injEq, Value.bool.injEq, true_and, and_true] at h
    obtain ⟨rfl, rfl⟩ := h
    simp only [DDisk.le]; exact ⟨⟨by simpa using lc0, fun y hy => encS_to (oc0 _ (List.mem_map.2 ⟨y, hy, rfl⟩))⟩, ⟨by simpa using lc1, fun y hy => DLoose.ok.1 (oc1 _ (List.mem_map.2 ⟨y, hy, rfl⟩))⟩⟩
  · intro h
    simp only [DDisk.le] at h; obtain ⟨⟨lc0, mc0⟩, ⟨lc1, mc1⟩⟩ := h; exact ⟨(x.pages.map (encS 1 encU8)), (x.loose.map DLoose.enc), rfl, (by simpa using lc0), (by intro r hr; obtain ⟨y, hy, rfl⟩ := List.mem_map.1 hr; exact ⟨_, rfl, by simpa using mc0 y hy, fun r hr => by obtain ⟨z, hz, rfl⟩ := List.mem_map.1 hr; exact ⟨z, rfl⟩⟩), (by simpa using lc1), (by intro r hr; obtain ⟨y, hy, rfl⟩ := List.mem_map.1 hr; exact DLoose.ok.2 (mc1 y hy))⟩
theorem op179 : Px.Op Try.prog 179 2 DCell.enc DCell.wf := by
  refine Px.Op.struct (fs := #[{ name := "Key", type := 2, offset := 0, embedded := false, tag := "", pkgPath := "", byteOffset := 0 }, { name := "Value", type := 2, offset := 1, embedded := false, tag := "", pkgPath := "", byteOffset := 8 }]) (fun p : (Int) × (Int) => (⟨p.1, p.2⟩ : DCell)) (by kernel_rfl) (by kernel_rfl) ?_ ?_ (OpF.cons (off := 0) (off' := 1) (n := 1) (n' := 1) rfl (by kernel_rfl) (Px.Op.int (t := 2) (k := .i64) (by kernel_rfl)) rfl (OpF.one (off := 1) (n := 1) rfl (by kernel_rfl) (Px.Op.int (t := 2) (k := .i64) (by kernel_rfl))))
  · exact fun p => rfl
  · exact fun p h => h
theorem op177 : Px.Op Try.prog 177 6 DCopied.enc DCopied.wf := by
  refine Px.Op.struct (fs := #[{ name := "Id", type := 2, offset := 0, embedded := false, tag := "", pkgPath := "", byteOffset := 0 }, { name := "At", type := 2, offset := 1, embedded := false, tag := "", pkgPath := "", byteOffset := 8 }, { name := "State", type := 2, offset := 2, embedded := false, tag := "", pkgPath := "", byteOffset := 16 }, { name := "Start", type := 22, offset := 3, embedded := false, tag := "", pkgPath := "", byteOffset := 24 }, { name := "Now", type := 22, offset := 4, embedded := false, tag := "", pkgPath := "", byteOffset := 48 }, { name := "Wrote", type := 23, offset := 5, embedded := false, tag := "", pkgPath := "", byteOffset := 72 }]) (fun p : (Int) × (Int) × (Int) × (List (DCell)) × (List (DCell)) × (List (Int)) => (⟨p.1, p.2.1, p.2.2.1, p.2.2.2.1, p.2.2.2.2.1, p.2.2.2.2.2⟩ : DCopied)) (by kernel_rfl) (by kernel_rfl) ?_ ?_ (OpF.cons (off := 0) (off' := 1) (n := 1) (n' := 5) rfl (by kernel_rfl) (Px.Op.int (t := 2) (k := .i64) (by kernel_rfl)) rfl (OpF.cons (off := 1) (off' := 2) (n := 1) (n' := 4) rfl (by kernel_rfl) (Px.Op.int (t := 2) (k := .i64) (by kernel_rfl)) rfl (OpF.cons (off := 2) (off' := 3) (n := 1) (n' := 3) rfl (by kernel_rfl) (Px.Op.int (t := 2) (k := .i64) (by kernel_rfl)) rfl (OpF.cons (off := 3) (off' := 4) (n := 1) (n' := 2) rfl (by kernel_rfl) (Px.Op.slice (t := 22) (e := 179) (enc := DCell.enc) (by kernel_rfl) (by kernel_rfl) (by decide) op179) rfl (OpF.cons (off := 4) (off' := 5) (n := 1) (n' := 1) rfl (by kernel_rfl) (Px.Op.slice (t := 22) (e := 179) (enc := DCell.enc) (by kernel_rfl) (by kernel_rfl) (by decide) op179) rfl (OpF.one (off := 5) (n := 1) rfl (by kernel_rfl) (Px.Op.slice (t := 23) (e := 2) (enc := encI) (by kernel_rfl) (by kernel_rfl) (by decide) (Px.Op.int (t := 2) (k := .i64) (by kernel_rfl)))))))))
  · exact fun p => rfl
  · exact fun p h => h
theorem op26 : Px.Op Try.prog 26 5 DCopies.enc DCopies.wf := by
  refine Px.Op.struct (fs := #[{ name := "Next", type := 2, offset := 0, embedded := false, tag := "", pkgPath := "", byteOffset := 0 }, { name := "Clock", type := 2, offset := 1, embedded := false, tag := "", pkgPath := "", byteOffset := 8 }, { name := "Now", type := 22, offset := 2, embedded := false, tag := "", pkgPath := "", byteOffset := 16 }, { name := "Last", type := 23, offset := 3, embedded := false, tag := "", pkgPath := "", byteOffset := 40 }, { name := "Txns", type := 24, offset := 4, embedded := false, tag := "", pkgPath := "", byteOffset := 64 }]) (fun p : (Int) × (Int) × (List (DCell)) × (List (Int)) × (List (DCopied)) => (⟨p.1, p.2.1, p.2.2.1, p.2.2.2.1, p.2.2.2.2⟩ : DCopies)) (by kernel_rfl) (by kernel_rfl) ?_ ?_ (OpF.cons (off := 0) (off' := 1) (n := 1) (n' := 4) rfl (by kernel_rfl) (Px.Op.int (t := 2) (k := .i64) (by kernel_rfl)) rfl (OpF.cons (off := 1) (off' := 2) (n := 1) (n' := 3) rfl (by kernel_rfl) (Px.Op.int (t := 2) (k := .i64) (by kernel_rfl)) rfl (OpF.cons (off := 2) (off' := 3) (n := 1) (n' := 2) rfl (by kernel_rfl) (Px.Op.slice (t := 22) (e := 179) (enc := DCell.enc) (by kernel_rfl) (by kernel_rfl) (by decide) op179) rfl (OpF.cons (off := 3) (off' := 4) (n := 1) (n' := 1) rfl (by kernel_rfl) (Px.Op.slice (t := 23) (e := 2) (enc := encI) (by kernel_rfl) (by kernel_rfl) (by decide) (Px.Op.int (t := 2) (k := .i64) (by kernel_rfl))) rfl (OpF.one (off := 4) (n := 1) rfl (by kernel_rfl) (Px.Op.slice (t := 24) (e := 177) (enc := DCopied.enc) (by kernel_rfl) (by kernel_rfl) (by decide) op177))))))
  · exact fun p => rfl
  · exact fun p h => h
end Go.Proofs.Ythejobdlfomcjaa


namespace Go.Proofs.Ythejobdlfomcjaa
open Go Go.Px Go.RowKit Go.Proofs
set_option linter.unnecessarySimpa false
set_option linter.unusedVariables false
set_option linter.unusedSimpArgs false
set_option maxRecDepth 100000
attribute [-simp] Int.not_le Int.not_lt
def inR (v lo hi : Int) : Bool := decide (lo ≤ v) && decide (v ≤ hi)
theorem spec_l1In (H : HH) (v lo hi : Int) : PFun Try.prog 79 [I v, I lo, I hi] H (B (inR v lo hi)) := by
  refine PFun.of [0, 1, 2, 6] Try.func79 rfl (by simp [Try.f79]) ?_
  intro d hd0 hfr hcl hout
  have hcd : ∀ n q, CleanH (hit [((d, n), q)]) H := fun n q => hcl.at
  simp (maxSteps := 4000000) [hd0, hfr, hout, hcl, hcd, delA_none, Try.f79]
  constructor <;> intros <;> simp_all [inR]
theorem impl_within (H : HH) (v lo hi : Int) : PFun Try.prog 88 [I v, I lo, I hi] H (B (inR v lo hi)) := by
  refine PFun.of [0, 1, 2, 6] Try.func88 rfl (by simp [Try.f88]) ?_
  intro d hd0 hfr hcl hout
  have hcd : ∀ n q, CleanH (hit [((d, n), q)]) H := fun n q => hcl.at
  simp (maxSteps := 4000000) [hd0, hfr, hout, hcl, hcd, delA_none, Try.f88]
  constructor <;> intros <;> simp_all [inR]
theorem impl_DiskFault_1 (H : HH) {r q n} : PFun Try.prog 139 [.c (.sl r q 1 0 n)] H (B (decide (n ≠ 48))) := by
  refine PFun.of [0, 2] Try.func139 rfl (by simp [Try.f139]) ?_
  intro d hd0 hfr hcl hout
  have hcd : ∀ n q, CleanH (hit [((d, n), q)]) H := fun n q => hcl.at
  simp (maxSteps := 4000000) [hd0, hfr, hout, hcl, hcd, delA_none, Try.f139]
  omega
theorem impl_Disk_hasPage (H : HH) {r q n r2 q2 n2 v} (hn : n ≤ 1048576) : PFun Try.prog 124 [.a [.sl r q 1 0 n, .sl r2 q2 3 0 n2], I v] H (B (inR v 0 (n - 1))) := by
  refine PFun.of [1, 2, 4] Try.func124 rfl (by simp [Try.f124]) ?_
  intro d hd0 hfr hcl hout
  have hcd : ∀ n q, CleanH (hit [((d, n), q)]) H := fun n q => hcl.at
  simp (maxSteps := 4000000) [hd0, hfr, hout, hcl, hcd, delA_none, Try.f124]
  have w1 : IntKind.i64.wrap ((n : Int) - 1) = n - 1 := w64 (by omega) (by omega)
  simp (maxSteps := 4000000) [hd0, hfr, hout, hcl, hcd, delA_none, w1]
  refine (impl_within _ _ _ _).useCK ?_
  simp (maxSteps := 4000000) [hd0, hfr, hout, hcl, hcd, delA_none]
/-- the first place where a predicate holds, or -1 -/
def idxF {α : Type} (P : α → Bool) : List α → Int
  | [] => -1
  | x :: l => if P x then 0 else if idxF P l < 0 then -1 else idxF P l + 1
theorem idxF_ge {α : Type} {P : α → Bool} : ∀ {l : List α}, -1 ≤ idxF P l
  | [] => by simp [idxF]
  | x :: l => by
    have ih := idxF_ge (P := P) (l := l)
    simp only [idxF]; split <;> (try split) <;> omega
theorem idxF_any {α : Type} {P : α → Bool} : ∀ {l : List α}, decide (idxF P l ≥ 0) = l.any P
  | [] => by simp [idxF]
  | x :: l => by
    have ih := idxF_any (P := P) (l := l)
    simp only [idxF, List.any_cons, ← ih]
    by_cases h : P x = true
    · simp [h]
    · by_cases h2 : idxF P l < 0
      · simp [h, h2]; omega
      · simp [h, h2]; omega
theorem idxF_drop {α : Type} {P : α → Bool} {l : List α} {i : Nat} (h : ∀ x ∈ l.take i, P x = false) : idxF P l = if idxF P (l.drop i) < 0 then -1 else idxF P (l.drop i) + i := by
  induction l generalizing i with
  | nil => simp [idxF]
  | cons x l ih =>
    cases i with
    | zero => have := idxF_ge (P := P) (l := x :: l); simp; omega
    | succ i =>
      have hx : P x = false := h x (by simp)
      have := ih (i := i) (fun y hy => h y (by simp [hy]))
      simp only [idxF, hx, List.drop_succ_cons, Bool.false_eq_true, if_false]
      rw [this]
      by_cases h2 : idxF P (l.drop i) < 0
      · simp [h2]
      · simp only [h2, if_false]; rw [if_neg (by omega)]; push_cast; omega
theorem slices_IndexFunc_Sbyte (H : HH) {r q} {l : List (List Int)} {g caps} {P : List Int → Bool} (hb : l.length ≤ 1048576) (ha : arrAt H r q = some (1, l.map (encS 1 encU8))) (hcaps : ∀ c ∈ caps, isRef c = true ∨ ∃ y, c = .v y ∧ flat y = true) (hg : tfunc Try.prog g = true)
    (hf : ∀ i (hi : i < l.length), PFun Try.prog g ([.c (.sl r (q ++ [(i, 0)]) 1 0 l[i].length)] ++ caps.map T.c) H (B (P l[i]))) : PFun Try.prog 182 [.c (.sl r q 1 0 l.length), .c (.fn g caps)] H (I (idxF P l)) := by
  refine PFun.of [0, 1, 4, 5, 7, 8, 9, 16] Try.func182 rfl (by simp [Try.f182]) ?_
  intro d hd0 hfr hcl hout
  have hcd : ∀ n q, CleanH (hit [((d, n), q)]) H := fun n q => hcl.at
  have ha_n : ∀ n, ¬ (d, n) = r := fun n => nm_ne (ne_of_arr hfr ha)
  have ha_d : ¬ r.1 = d := ne_of_arr hfr ha
  have ha_m : ∀ n, ¬ r = (d, n) := fun n => nm_ne' (ne_of_arr hfr ha)
  simp (maxSteps := 4000000) [hd0, hfr, hout, hcl, hcd, delA_none, ha, ha_n, ha_d, ha_m, Try.f182]
  refine LoopK.intro (fun m s => ∃ i : Nat, i + m = l.length ∧ (∀ x ∈ l.take i, P x = false) ∧ s = ⟨[(0, .c (.sl r q 1 0 l.length)), (1, .c (.fn g caps)), (7, I l.length), (8, I i)], H, []⟩) (l.length + 1)
    (LK.intro l.length [0, 1, 7, 8] [] (by omega) (by decide) (by simp (maxSteps := 4000000) [hd0, hfr, hout, hcl, hcd, delA_none, ha, ha_n, ha_d, ha_m]) ⟨0, by simp⟩) ?_
  rintro m s ⟨i, him, hP, rfl⟩
  simp (maxSteps := 4000000) [hd0, hfr, hout, hcl, hcd, delA_none, ha, ha_n, ha_d, ha_m]
  constructor
  · intro hi
    have hi' : i < l.length := by omega
    have w1 : IntKind.i64.wrap ((i : Int) + 1) = i + 1 := w64 (by omega) (by omega)
    simp (maxSteps := 4000000) [hd0, hfr, hout, hcl, hcd, delA_none, ha, ha_n, ha_d, ha_m, hi', encS]
    refine ⟨⟨hcaps, hg⟩, ?_⟩
    refine (hf i hi').useCK ?_
    simp (maxSteps := 4000000) [hd0, hfr, hout, hcl, hcd, delA_none, ha, ha_n, ha_d, ha_m]
    have hd := idxF_drop hP
    rw [List.drop_eq_getElem_cons hi'] at hd
    constructor
    · intro h
      simp [idxF, h] at hd
      omega
    · intro h
      simp (maxSteps := 4000000) [hd0, hfr, hout, hcl, hcd, delA_none, ha, ha_n, ha_d, ha_m, w1]
      refine LK.intro (m - 1) [0, 1, 7, 8] [] (by omega) (by decide) (by simp (maxSteps := 4000000) [hd0, hfr, hout, hcl, hcd, delA_none, ha, ha_n, ha_d, ha_m]) ⟨i + 1, by omega, fun x hx => ?_, by simp⟩
      rw [List.take_succ_eq_append_getElem hi'] at hx
      rcases List.mem_append.1 hx with hx | hx
      · exact hP x hx
      · simp at hx; rw [hx]; exact h
  · intro h
    have hd := idxF_drop hP
    rw [List.drop_eq_nil_of_le h] at hd
    simp [idxF] at hd
    exact hd.symm
theorem slices_ContainsFunc_Sbyte (H : HH) {r q} {l : List (List Int)} {g caps} {P : List Int → Bool} (hb : l.length ≤ 1048576) (ha : arrAt H r q = some (1, l.map (encS 1 encU8))) (hcaps : ∀ c ∈ caps, isRef c = true ∨ ∃ y, c = .v y ∧ flat y = true) (hg : tfunc Try.prog g = true)
    (hf : ∀ i (hi : i < l.length), PFun Try.prog g ([.c (.sl r (q ++ [(i, 0)]) 1 0 l[i].length)] ++ caps.map T.c) H (B (P l[i]))) : PFun Try.prog 138 [.c (.sl r q 1 0 l.length), .c (.fn g caps)] H (B (l.any P)) := by
  refine PFun.of [0, 1, 4] Try.func138 rfl (by simp [Try.f138]) ?_
  intro d hd0 hfr hcl hout
  have hcd : ∀ n q, CleanH (hit [((d, n), q)]) H := fun n q => hcl.at
  have ha_n : ∀ n, ¬ (d, n) = r := fun n => nm_ne (ne_of_arr hfr ha)
  have ha_d : ¬ r.1 = d := ne_of_arr hfr ha
  have ha_m : ∀ n, ¬ r = (d, n) := fun n => nm_ne' (ne_of_arr hfr ha)
  simp (maxSteps := 4000000) [hd0, hfr, hout, hcl, hcd, delA_none, ha, ha_n, ha_d, ha_m, Try.f138]
  refine (slices_IndexFunc_Sbyte _ hb ha hcaps hg hf).useCK ?_
  simp (maxSteps := 4000000) [hd0, hfr, hout, hcl, hcd, delA_none, ha, ha_n, ha_d, ha_m]
  exact idxF_any
def looseF (n : Nat) : List DLoose → Int
  | [] => 0
  | w :: l => if !inR w.page 0 (n - 1) || !inR w.part 0 2 then 3 else if w.data.length ≠ 16 then 1 else looseF n l
def diskF (x : DDisk) : Int :=
  if x.pages.length < 1 ∨ x.pages.length > 8 ∨ (x.pages.any fun p => decide (p.length ≠ 48)) = true then 1 else if x.loose.length > 60 then 2 else looseF x.pages.length x.loose
end Go.Proofs.Ythejobdlfomcjaa

namespace Go.Proofs.Ythejobdlfomcjaa
open Go Go.Px Go.RowKit Go.Proofs
set_option linter.unnecessarySimpa false
set_option linter.unusedVariables false
set_option linter.unusedSimpArgs false
set_option maxRecDepth 100000
attribute [-simp] Int.not_le Int.not_lt
theorem impl_isTxn (H : HH) (v : Int) : PFun Try.prog 84 [I v] H (B (inR v 1 999)) := by
  refine PFun.of [0, 2] Try.func84 rfl (by simp [Try.f84]) ?_
  intro d hd0 hfr hcl hout
  have hcd : ∀ n q, CleanH (hit [((d, n), q)]) H := fun n q => hcl.at
  simp (maxSteps := 4000000) [hd0, hfr, hout, hcl, hcd, delA_none, Try.f84]
  refine (impl_within _ _ _ _).useCK ?_
  simp (maxSteps := 4000000) [hd0, hfr, hout, hcl, hcd, delA_none]
theorem impl_isLsn (H : HH) (v : Int) : PFun Try.prog 85 [I v] H (B (inR v 0 1000000)) := by
  refine PFun.of [0, 2] Try.func85 rfl (by simp [Try.f85]) ?_
  intro d hd0 hfr hcl hout
  have hcd : ∀ n q, CleanH (hit [((d, n), q)]) H := fun n q => hcl.at
  simp (maxSteps := 4000000) [hd0, hfr, hout, hcl, hcd, delA_none, Try.f85]
  refine (impl_within _ _ _ _).useCK ?_
  simp (maxSteps := 4000000) [hd0, hfr, hout, hcl, hcd, delA_none]
theorem impl_isKey (H : HH) (v : Int) : PFun Try.prog 91 [I v] H (B (inR v 0 31)) := by
  refine PFun.of [0, 2] Try.func91 rfl (by simp [Try.f91]) ?_
  intro d hd0 hfr hcl hout
  have hcd : ∀ n q, CleanH (hit [((d, n), q)]) H := fun n q => hcl.at
  simp (maxSteps := 4000000) [hd0, hfr, hout, hcl, hcd, delA_none, Try.f91]
  refine (impl_within _ _ _ _).useCK ?_
  simp (maxSteps := 4000000) [hd0, hfr, hout, hcl, hcd, delA_none]
theorem impl_isValue (H : HH) (v : Int) : PFun Try.prog 151 [I v] H (B (inR v 0 9999)) := by
  refine PFun.of [0, 2] Try.func151 rfl (by simp [Try.f151]) ?_
  intro d hd0 hfr hcl hout
  have hcd : ∀ n q, CleanH (hit [((d, n), q)]) H := fun n q => hcl.at
  simp (maxSteps := 4000000) [hd0, hfr, hout, hcl, hcd, delA_none, Try.f151]
  refine (impl_within _ _ _ _).useCK ?_
  simp (maxSteps := 4000000) [hd0, hfr, hout, hcl, hcd, delA_none]
theorem spec_l5Txn (H : HH) (v : Int) : PFun Try.prog 78 [I v] H (B (inR v 1 999)) := by
  refine PFun.of [0, 2] Try.func78 rfl (by simp [Try.f78]) ?_
  intro d hd0 hfr hcl hout
  have hcd : ∀ n q, CleanH (hit [((d, n), q)]) H := fun n q => hcl.at
  simp (maxSteps := 4000000) [hd0, hfr, hout, hcl, hcd, delA_none, Try.f78]
  refine (spec_l1In _ _ _ _).useCK ?_
  simp (maxSteps := 4000000) [hd0, hfr, hout, hcl, hcd, delA_none]
theorem spec_l1Key (H : HH) (v : Int) : PFun Try.prog 146 [I v] H (B (inR v 0 31)) := by
  refine PFun.of [0, 2] Try.func146 rfl (by simp [Try.f146]) ?_
  intro d hd0 hfr hcl hout
  have hcd : ∀ n q, CleanH (hit [((d, n), q)]) H := fun n q => hcl.at
  simp (maxSteps := 4000000) [hd0, hfr, hout, hcl, hcd, delA_none, Try.f146]
  refine (spec_l1In _ _ _ _).useCK ?_
  simp (maxSteps := 4000000) [hd0, hfr, hout, hcl, hcd, delA_none]
theorem spec_l1Value (H : HH) (v : Int) : PFun Try.prog 147 [I v] H (B (inR v 0 9999)) := by
  refine PFun.of [0, 2] Try.func147 rfl (by simp [Try.f147]) ?_
  intro d hd0 hfr hcl hout
  have hcd : ∀ n q, CleanH (hit [((d, n), q)]) H := fun n q => hcl.at
  simp (maxSteps := 4000000) [hd0, hfr, hout, hcl, hcd, delA_none, Try.f147]
  refine (spec_l1In _ _ _ _).useCK ?_
  simp (maxSteps := 4000000) [hd0, hfr, hout, hcl, hcd, delA_none]
/-- what stands ahead of the i-th -/
def prv {α : Type} (f : α → Int) (l : List α) (i : Nat) : Option Int := if i = 0 then none else l[i-1]?.map f
theorem prv_zero {α : Type} {f : α → Int} {l : List α} : prv f l 0 = none := rfl
theorem prv_succ {α : Type} {f : α → Int} {l : List α} {i : Nat} (h : i < l.length) : prv f l (i + 1) = some (f l[i]) := by simp [prv, h]
theorem prv_pos {α : Type} {f : α → Int} {l : List α} {i : Nat} (h0 : i ≠ 0) (h : i - 1 < l.length) : prv f l i = some (f l[i-1]) := by simp [prv, h0, h]
/-- not above what stands ahead -/
def nab (p : Option Int) (k : Int) : Bool := match p with | some j => decide (k ≤ j) | none => false
/-- what is wrong with cells -/
def cellsF : Option Int → List DCell → Int
  | _, [] => 0
  | p, c :: l => if !inR c.key 0 31 || !inR c.value 0 9999 then 3 else if nab p c.key then 1 else cellsF (some c.key) l
def riseF : Option Int → List Int → Bool
  | _, [] => true
  | p, c :: l => if nab p c then false else riseF (some c) l
theorem spec_l9Cells (H : HH) {r q} {l : List DCell} (hb : l.length ≤ 1048576) (ha : arrAt H r q = some (2, l.map DCell.enc)) : PFun Try.prog 80 [.c (.sl r q 2 0 l.length)] H (I (cellsF none l)) := by
  refine PFun.of [0, 2, 3, 7, 25, 41] Try.func80 rfl (by simp [Try.f80]) ?_
  intro d hd0 hfr hcl hout
  have hcd : ∀ n q, CleanH (hit [((d, n), q)]) H := fun n q => hcl.at
  have ha_n : ∀ n, ¬ (d, n) = r := fun n => nm_ne (ne_of_arr hfr ha)
  have ha_d : ¬ r.1 = d := ne_of_arr hfr ha
  have ha_m : ∀ n, ¬ r = (d, n) := fun n => nm_ne' (ne_of_arr hfr ha)
  simp (maxSteps := 4000000) [hd0, hfr, hout, hcl, hcd, delA_none, ha, ha_n, ha_d, ha_m, Try.f80]
  refine LoopK.intro (fun m s => ∃ i : Nat, i + m = l.length ∧ cellsF (prv DCell.key l i) (l.drop i) = cellsF none l ∧ s = ⟨[(0, .c (.sl r q 2 0 l.length)), (3, I i)], H, []⟩) (l.length + 1) (LK.intro l.length [0, 3] [] (by omega) (by decide) (by simp (maxSteps := 4000000) [hd0, hfr, hout, hcl, hcd, delA_none, ha, ha_n, ha_d, ha_m]) ⟨0, by simp [prv]⟩) ?_
  rintro m s ⟨i, him, hinv, rfl⟩
  by_cases hi' : i < l.length
  case neg =>
    rw [List.drop_eq_nil_of_le (by omega)] at hinv
    simp (maxSteps := 4000000) [hd0, hfr, hout, hcl, hcd, delA_none, ha, ha_n, ha_d, ha_m, show ¬ (i : Int) < l.length by omega]
    simpa [cellsF] using hinv
  rw [List.drop_eq_getElem_cons hi'] at hinv
  simp only [cellsF] at hinv
  simp (maxSteps := 4000000) [hd0, hfr, hout, hcl, hcd, delA_none, ha, ha_n, ha_d, ha_m, show (i : Int) < l.length by omega, hi', DCell.enc]
  refine (spec_l1Key _ _).useCK ?_
  by_cases c1 : inR l[i].key 0 31 = true
  case neg => simp only [Bool.not_eq_true] at c1; simp [c1] at hinv; simp (maxSteps := 4000000) [hd0, hfr, hout, hcl, hcd, delA_none, ha, ha_n, ha_d, ha_m, c1, hinv]
  rw [c1] at hinv ⊢
  simp (maxSteps := 4000000) [hd0, hfr, hout, hcl, hcd, delA_none, ha, ha_n, ha_d, ha_m, hi', DCell.enc]
  refine (spec_l1Value _ _).useCK ?_
  by_cases c2 : inR l[i].value 0 9999 = true
  case neg => simp only [Bool.not_eq_true] at c2; simp [c2] at hinv; simp (maxSteps := 4000000) [hd0, hfr, hout, hcl, hcd, delA_none, ha, ha_n, ha_d, ha_m, c2, hinv]
  rw [c2] at hinv ⊢
  simp (maxSteps := 4000000) [hd0, hfr, hout, hcl, hcd, delA_none, ha, ha_n, ha_d, ha_m]
  refine DrawK.intro 16 [0, 3, 41] rfl (by kernel_rfl) (by decide) ?_
  have w1 : IntKind.i64.wrap ((i : Int) + 1) = i + 1 := w64 (by omega) (by omega)
  have hend := prv_succ (f := DCell.key) hi'
  by_cases h0 : i = 0
  · simp [h0, prv, nab] at hinv
    simp (maxSteps := 4000000) [hd0, hfr, hout, hcl, hcd, delA_none, ha, ha_n, ha_d, ha_m, show ¬ (0 : Int) < (i : Int) by omega, show ¬ 0 < i by omega, w1]
    refine LK.intro (m - 1) [0, 3] [] (by omega) (by decide) (by simp (maxSteps := 4000000) [hd0, hfr, hout, hcl, hcd, delA_none, ha, ha_n, ha_d, ha_m]) ⟨i + 1, by omega, by rw [hend]; simpa [h0] using hinv, by simp⟩
  · have h3 : i - 1 < l.length := by omega
    rw [prv_pos h0 h3] at hinv
    have w2 : IntKind.i64.wrap ((i : Int) - 1) = (i - 1 : Nat) := by rw [w64 (by omega) (by omega)]; omega
    by_cases h4 : l[i].key ≤ l[i-1].key
    · simp [nab, h4] at hinv
      simp (maxSteps := 4000000) [hd0, hfr, hout, hcl, hcd, delA_none, ha, ha_n, ha_d, ha_m, show (0 : Int) < (i : Int) by omega, show 0 < i by omega, w1, w2, h3, hi', DCell.enc, h4, hinv.symm]
    · simp [nab, h4] at hinv
      simp (maxSteps := 4000000) [hd0, hfr, hout, hcl, hcd, delA_none, ha, ha_n, ha_d, ha_m, show (0 : Int) < (i : Int) by omega, show 0 < i by omega, w1, w2, h3, hi', DCell.enc, h4]
      refine LK.intro (m - 1) [0, 3] [] (by omega) (by decide) (by simp (maxSteps := 4000000) [hd0, hfr, hout, hcl, hcd, delA_none, ha, ha_n, ha_d, ha_m]) ⟨i + 1, by omega, by rw [hend]; exact hinv, by simp⟩
theorem impl_cellsFault (H : HH) {r q} {l : List DCell} (hb : l.length ≤ 1048576) (ha : arrAt H r q = some (2, l.map DCell.enc)) : PFun Try.prog 89 [.c (.sl r q 2 0 l.length)] H (I (cellsF none l)) := by
  refine PFun.of [0, 2, 3, 4, 5, 6, 7, 8, 12, 23] Try.func89 rfl (by simp [Try.f89]) ?_
  intro d hd0 hfr hcl hout
  have hcd : ∀ n q, CleanH (hit [((d, n), q)]) H := fun n q => hcl.at
  have ha_n : ∀ n, ¬ (d, n) = r := fun n => nm_ne (ne_of_arr hfr ha)
  have ha_d : ¬ r.1 = d := ne_of_arr hfr ha
  have ha_m : ∀ n, ¬ r = (d, n) := fun n => nm_ne' (ne_of_arr hfr ha)
  simp (maxSteps := 4000000) [hd0, hfr, hout, hcl, hcd, delA_none, ha, ha_n, ha_d, ha_m, Try.f89]
  refine LoopK.intro (fun m s => ∃ i : Nat, i + m = l.length ∧ cellsF (prv DCell.key l i) (l.drop i) = cellsF none l ∧ s = ⟨[(0, .c (.sl r q 2 0 l.length)), (5, .c (.sl r q 2 0 l.length)), (6, I l.length), (7, I i)], H, []⟩) (l.length + 1) (LK.intro l.length [0, 5, 6, 7] [] (by omega) (by decide) (by simp (maxSteps := 4000000) [hd0, hfr, hout, hcl, hcd, delA_none, ha, ha_n, ha_d, ha_m]) ⟨0, by simp [prv]⟩) ?_
  rintro m s ⟨i, him, hinv, rfl⟩
  by_cases hi' : i < l.length
  case neg =>
    rw [List.drop_eq_nil_of_le (by omega)] at hinv
    simp (maxSteps := 4000000) [hd0, hfr, hout, hcl, hcd, delA_none, ha, ha_n, ha_d, ha_m, show ¬ (i : Int) < l.length by omega]
    simpa [cellsF] using hinv
  rw [List.drop_eq_getElem_cons hi'] at hinv
  simp only [cellsF] at hinv
  simp (maxSteps := 4000000) [hd0, hfr, hout, hcl, hcd, delA_none, ha, ha_n, ha_d, ha_m, show (i : Int) < l.length by omega, hi', DCell.enc]
  refine (impl_isKey _ _).useCK ?_
  by_cases c1 : inR l[i].key 0 31 = true
  case neg => simp only [Bool.not_eq_true] at c1; simp [c1] at hinv; simp (maxSteps := 4000000) [hd0, hfr, hout, hcl, hcd, delA_none, ha, ha_n, ha_d, ha_m, c1, hinv]
  rw [c1] at hinv ⊢
  simp (maxSteps := 4000000) [hd0, hfr, hout, hcl, hcd, delA_none, ha, ha_n, ha_d, ha_m, hi', DCell.enc]
  refine (impl_isValue _ _).useCK ?_
  by_cases c2 : inR l[i].value 0 9999 = true
  case neg => simp only [Bool.not_eq_true] at c2; simp [c2] at hinv; simp (maxSteps := 4000000) [hd0, hfr, hout, hcl, hcd, delA_none, ha, ha_n, ha_d, ha_m, c2, hinv]
  rw [c2] at hinv ⊢
  simp (maxSteps := 4000000) [hd0, hfr, hout, hcl, hcd, delA_none, ha, ha_n, ha_d, ha_m]
  refine DrawK.intro 14 [0, 5, 6, 7, 23] rfl (by kernel_rfl) (by decide) ?_
  have w1 : IntKind.i64.wrap ((i : Int) + 1) = i + 1 := w64 (by omega) (by omega)
  have hend := prv_succ (f := DCell.key) hi'
  by_cases h0 : i = 0
  · simp [h0, prv, nab] at hinv
    simp (maxSteps := 4000000) [hd0, hfr, hout, hcl, hcd, delA_none, ha, ha_n, ha_d, ha_m, show ¬ (0 : Int) < (i : Int) by omega, show ¬ 0 < i by omega, w1]
    refine LK.intro (m - 1) [0, 5, 6, 7] [4] (by omega) (by decide) (by simp (maxSteps := 4000000) [hd0, hfr, hout, hcl, hcd, delA_none, ha, ha_n, ha_d, ha_m]) ⟨i + 1, by omega, by rw [hend]; simpa [h0] using hinv, by simp⟩
  · have h3 : i - 1 < l.length := by omega
    rw [prv_pos h0 h3] at hinv
    have w2 : IntKind.i64.wrap ((i : Int) - 1) = (i - 1 : Nat) := by rw [w64 (by omega) (by omega)]; omega
    by_cases h4 : l[i].key ≤ l[i-1].key
    · simp [nab, h4] at hinv
      simp (maxSteps := 4000000) [hd0, hfr, hout, hcl, hcd, delA_none, ha, ha_n, ha_d, ha_m, show (0 : Int) < (i : Int) by omega, show 0 < i by omega, w1, w2, h3, hi', DCell.enc, h4, hinv.symm]
    · simp [nab, h4] at hinv
      simp (maxSteps := 4000000) [hd0, hfr, hout, hcl, hcd, delA_none, ha, ha_n, ha_d, ha_m, show (0 : Int) < (i : Int) by omega, show 0 < i by omega, w1, w2, h3, hi', DCell.enc, h4]
      refine LK.intro (m - 1) [0, 5, 6, 7] [4] (by omega) (by decide) (by simp (maxSteps := 4000000) [hd0, hfr, hout, hcl, hcd, delA_none, ha, ha_n, ha_d, ha_m]) ⟨i + 1, by omega, by rw [hend]; exact hinv, by simp⟩
theorem riseF_one {l : List Int} (h : l.length < 1) : riseF none l = true := by
  have : l = [] := List.eq_nil_of_length_eq_zero (by omega)
  subst this; rfl
theorem riseF_start {l : List Int} : riseF (prv id l 1) (l.drop 1) = riseF none l := by
  cases l with
  | nil => rfl
  | cons a l => simp [prv, riseF, nab]
theorem impl_rise (H : HH) {r q} {l : List Int} (hb : l.length ≤ 1048576) (ha : arrAt H r q = some (1, l.map encI)) : PFun Try.prog 92 [.c (.sl r q 1 0 l.length)] H (B (riseF none l)) := by
  refine PFun.of [0, 2, 3, 7, 19] Try.func92 rfl (by simp [Try.f92]) ?_
  intro d hd0 hfr hcl hout
  have hcd : ∀ n q, CleanH (hit [((d, n), q)]) H := fun n q => hcl.at
  have ha_n : ∀ n, ¬ (d, n) = r := fun n => nm_ne (ne_of_arr hfr ha)
  have ha_d : ¬ r.1 = d := ne_of_arr hfr ha
  have ha_m : ∀ n, ¬ r = (d, n) := fun n => nm_ne' (ne_of_arr hfr ha)
  simp (maxSteps := 4000000) [hd0, hfr, hout, hcl, hcd, delA_none, ha, ha_n, ha_d, ha_m, Try.f92]
  refine LoopK.intro (fun m s => ∃ i : Nat, i + m = l.length + 1 ∧ 1 ≤ i ∧ riseF (prv id l i) (l.drop i) = riseF none l ∧ s = ⟨[(0, .c (.sl r q 1 0 l.length)), (3, I i)], H, []⟩) (l.length + 1) (LK.intro l.length [0, 3] [] (by omega) (by decide) (by simp (maxSteps := 4000000) [hd0, hfr, hout, hcl, hcd, delA_none, ha, ha_n, ha_d, ha_m]) ⟨1, by omega, by omega, riseF_start, by simp⟩) ?_
  rintro m s ⟨i, him, hi1, hinv, rfl⟩
  by_cases hi' : i < l.length
  case neg =>
    rw [List.drop_eq_nil_of_le (by omega)] at hinv
    simp (maxSteps := 4000000) [hd0, hfr, hout, hcl, hcd, delA_none, ha, ha_n, ha_d, ha_m, show ¬ (i : Int) < l.length by omega]
    simpa [riseF] using hinv
  rw [List.drop_eq_getElem_cons hi'] at hinv
  simp only [riseF] at hinv
  have w1 : IntKind.i64.wrap ((i : Int) + 1) = i + 1 := w64 (by omega) (by omega)
  have hend := prv_succ (f := id) hi'
  have h3 : i - 1 < l.length := by omega
  rw [prv_pos (by omega) h3] at hinv
  have w2 : IntKind.i64.wrap ((i : Int) - 1) = (i - 1 : Nat) := by rw [w64 (by omega) (by omega)]; omega
  simp (maxSteps := 4000000) [hd0, hfr, hout, hcl, hcd, delA_none, ha, ha_n, ha_d, ha_m, show (i : Int) < l.length by omega]
  refine DrawK.intro 10 [0, 3, 19] rfl (by kernel_rfl) (by decide) ?_
  by_cases h4 : l[i] ≤ l[i-1]
  · simp [nab, h4] at hinv
    simp (maxSteps := 4000000) [hd0, hfr, hout, hcl, hcd, delA_none, ha, ha_n, ha_d, ha_m, w1, w2, h3, hi', encI, h4, hinv]
  · simp [nab, h4] at hinv
    simp (maxSteps := 4000000) [hd0, hfr, hout, hcl, hcd, delA_none, ha, ha_n, ha_d, ha_m, w1, w2, h3, hi', encI, h4]
    refine LK.intro (m - 1) [0, 3] [] (by omega) (by decide) (by simp (maxSteps := 4000000) [hd0, hfr, hout, hcl, hcd, delA_none, ha, ha_n, ha_d, ha_m]) ⟨i + 1, by omega, by omega, by rw [hend]; exact hinv, by simp⟩
theorem slices_IndexFunc_int64 (H : HH) {r q} {l : List Int} {g caps} {P : Int → Bool} (hb : l.length ≤ 1048576) (ha : arrAt H r q = some (1, l.map encI)) (hcaps : ∀ c ∈ caps, isRef c = true ∨ ∃ y, c = .v y ∧ flat y = true) (hg : tfunc Try.prog g = true)
    (hf : ∀ v, PFun Try.prog g ([I v] ++ caps.map T.c) H (B (P v))) : PFun Try.prog 150 [.c (.sl r q 1 0 l.length), .c (.fn g caps)] H (I (idxF P l)) := by
  refine PFun.of [0, 1, 4, 5, 7, 8, 9, 16] Try.func150 rfl (by simp [Try.f150]) ?_
  intro d hd0 hfr hcl hout
  have hcd : ∀ n q, CleanH (hit [((d, n), q)]) H := fun n q => hcl.at
  have ha_n : ∀ n, ¬ (d, n) = r := fun n => nm_ne (ne_of_arr hfr ha)
  have ha_d : ¬ r.1 = d := ne_of_arr hfr ha
  have ha_m : ∀ n, ¬ r = (d, n) := fun n => nm_ne' (ne_of_arr hfr ha)
  simp (maxSteps := 4000000) [hd0, hfr, hout, hcl, hcd, delA_none, ha, ha_n, ha_d, ha_m, Try.f150]
  refine LoopK.intro (fun m s => ∃ i : Nat, i + m = l.length ∧ (∀ x ∈ l.take i, P x = false) ∧ s = ⟨[(0, .c (.sl r q 1 0 l.length)), (1, .c (.fn g caps)), (7, I l.length), (8, I i)], H, []⟩) (l.length + 1)
    (LK.intro l.length [0, 1, 7, 8] [] (by omega) (by decide) (by simp (maxSteps := 4000000) [hd0, hfr, hout, hcl, hcd, delA_none, ha, ha_n, ha_d, ha_m]) ⟨0, by simp⟩) ?_
  rintro m s ⟨i, him, hP, rfl⟩
  simp (maxSteps := 4000000) [hd0, hfr, hout, hcl, hcd, delA_none, ha, ha_n, ha_d, ha_m]
  constructor
  · intro hi
    have hi' : i < l.length := by omega
    have w1 : IntKind.i64.wrap ((i : Int) + 1) = i + 1 := w64 (by omega) (by omega)
    simp (maxSteps := 4000000) [hd0, hfr, hout, hcl, hcd, delA_none, ha, ha_n, ha_d, ha_m, hi', encI]
    refine ⟨⟨hcaps, hg⟩, ?_⟩
    refine (hf _).useCK ?_
    simp (maxSteps := 4000000) [hd0, hfr, hout, hcl, hcd, delA_none, ha, ha_n, ha_d, ha_m]
    have hd := idxF_drop hP
    rw [List.drop_eq_getElem_cons hi'] at hd
    constructor
    · intro h
      simp [idxF, h] at hd
      omega
    · intro h
      simp (maxSteps := 4000000) [hd0, hfr, hout, hcl, hcd, delA_none, ha, ha_n, ha_d, ha_m, w1]
      refine LK.intro (m - 1) [0, 1, 7, 8] [] (by omega) (by decide) (by simp (maxSteps := 4000000) [hd0, hfr, hout, hcl, hcd, delA_none, ha, ha_n, ha_d, ha_m]) ⟨i + 1, by omega, fun x hx => ?_, by simp⟩
      rw [List.take_succ_eq_append_getElem hi'] at hx
      rcases List.mem_append.1 hx with hx | hx
      · exact hP x hx
      · simp at hx; rw [hx]; exact h
  · intro h
    have hd := idxF_drop hP
    rw [List.drop_eq_nil_of_le h] at hd
    simp [idxF] at hd
    exact hd.symm
theorem slices_ContainsFunc_int64 (H : HH) {r q} {l : List Int} {g caps} {P : Int → Bool} (hb : l.length ≤ 1048576) (ha : arrAt H r q = some (1, l.map encI)) (hcaps : ∀ c ∈ caps, isRef c = true ∨ ∃ y, c = .v y ∧ flat y = true) (hg : tfunc Try.prog g = true)
    (hf : ∀ v, PFun Try.prog g ([I v] ++ caps.map T.c) H (B (P v))) : PFun Try.prog 86 [.c (.sl r q 1 0 l.length), .c (.fn g caps)] H (B (l.any P)) := by
  refine PFun.of [0, 1, 4] Try.func86 rfl (by simp [Try.f86]) ?_
  intro d hd0 hfr hcl hout
  have hcd : ∀ n q, CleanH (hit [((d, n), q)]) H := fun n q => hcl.at
  have ha_n : ∀ n, ¬ (d, n) = r := fun n => nm_ne (ne_of_arr hfr ha)
  have ha_d : ¬ r.1 = d := ne_of_arr hfr ha
  have ha_m : ∀ n, ¬ r = (d, n) := fun n => nm_ne' (ne_of_arr hfr ha)
  simp (maxSteps := 4000000) [hd0, hfr, hout, hcl, hcd, delA_none, ha, ha_n, ha_d, ha_m, Try.f86]
  refine (slices_IndexFunc_int64 _ hb ha hcaps hg hf).useCK ?_
  simp (maxSteps := 4000000) [hd0, hfr, hout, hcl, hcd, delA_none, ha, ha_n, ha_d, ha_m]
  exact idxF_any
end Go.Proofs.Ythejobdlfomcjaa

namespace Go.Proofs.Ythejobdlfomcjaa
open Go Go.Px Go.RowKit Go.Proofs
set_option linter.unnecessarySimpa false
set_option linter.unusedVariables false
set_option linter.unusedSimpArgs false
set_option maxRecDepth 100000
attribute [-simp] Int.not_le Int.not_lt
def wrF (l : List Int) : Int := if (l.any fun k => !inR k 0 31) = true then 3 else if riseF none l = false then 1 else 0
/-- what is wrong with one transaction's copy -/
def tF (next clock : Int) (p : Option Int) (t : DCopied) : Int :=
  if (!inR t.id_ 1 (next - 1) || !inR t.at_ 0 clock || !inR t.state 1 3) = true then 3
  else if nab p t.id_ = true ∨ (t.state ≠ 1 ∧ 0 < t.start.length + t.now.length + t.wrote.length) then 1
  else if cellsF none t.start ≠ 0 then cellsF none t.start
  else if cellsF none t.now ≠ 0 then cellsF none t.now
  else wrF t.wrote
def txF (next clock : Int) : Option Int → List DCopied → Int
  | _, [] => 0
  | p, t :: l => if tF next clock p t ≠ 0 then tF next clock p t else txF next clock (some t.id_) l
/-- what is wrong with copies -/
def copF (x : DCopies) : Int :=
  if (!inR x.next 1 999 || !inR x.clock 0 1000000) = true then 3 else if 20 < x.txns.length then 2 else if x.last.length ≠ 32 then 1 else if (x.last.any fun n => !inR n 0 x.clock) = true then 3 else if cellsF none x.now ≠ 0 then cellsF none x.now else txF x.next x.clock none x.txns
theorem impl_CopiesFault_1 (H : HH) {r q v cl c0 c2 c3 c4} (ha : arrAt H r q = some (5, [[c0, .v (.int .i64 cl), c2, c3, c4]])) : PFun Try.prog 87 [I v, .c (.pt r q 5 0 0)] H (B (!inR v 0 cl)) := by
  refine PFun.of [0, 1, 3] Try.func87 rfl (by simp [Try.f87]) ?_
  intro d hd0 hfr hcl hout
  have hcd : ∀ n q, CleanH (hit [((d, n), q)]) H := fun n q => hcl.at
  have ha_n : ∀ n, ¬ (d, n) = r := fun n => nm_ne (ne_of_arr hfr ha)
  have ha_d : ¬ r.1 = d := ne_of_arr hfr ha
  have ha_m : ∀ n, ¬ r = (d, n) := fun n => nm_ne' (ne_of_arr hfr ha)
  simp (maxSteps := 4000000) [hd0, hfr, hout, hcl, hcd, delA_none, ha, ha_n, ha_d, ha_m, Try.f87]
  refine (impl_within _ _ _ _).useCK ?_
  simp (maxSteps := 4000000) [hd0, hfr, hout, hcl, hcd, delA_none, ha, ha_n, ha_d, ha_m]
theorem impl_CopiesFault_2 (H : HH) {v} : PFun Try.prog 90 [I v] H (B (!inR v 0 31)) := by
  refine PFun.of [0, 2] Try.func90 rfl (by simp [Try.f90]) ?_
  intro d hd0 hfr hcl hout
  have hcd : ∀ n q, CleanH (hit [((d, n), q)]) H := fun n q => hcl.at
  simp (maxSteps := 4000000) [hd0, hfr, hout, hcl, hcd, delA_none, Try.f90]
  refine (impl_isKey _ _).useCK ?_
  simp (maxSteps := 4000000) [hd0, hfr, hout, hcl, hcd, delA_none]
set_option maxHeartbeats 1000000 in
theorem spec_l9Copied (H : HH) {r q r3 q3 c2 c3} {next clock : Int} {txns : List DCopied} {i : Nat} (hn : 1 ≤ next ∧ next ≤ 999) (hb : txns.length ≤ 1048576) (hi : i < txns.length) (hl : txns[i].le 1048576)
    (ha : arrAt H r q = some (5, [[.v (.int .i64 next), .v (.int .i64 clock), c2, c3, .sl r3 q3 6 0 txns.length]])) (a3 : arrAt H r3 q3 = some (6, txns.map DCopied.enc)) :
    PFun Try.prog 81 [.c (.pt r q 5 0 0), I i] H (I (tF next clock (prv DCopied.id_ txns i) txns[i])) := by
  have s1 := arrAt_sub a3 (i := i) (f := 3) (row := txns[i].enc) (by simp [hi]) rfl
  have s2 := arrAt_sub a3 (i := i) (f := 4) (row := txns[i].enc) (by simp [hi]) rfl
  have s3 := arrAt_sub a3 (i := i) (f := 5) (row := txns[i].enc) (by simp [hi]) rfl
  obtain ⟨l1, l2, l3⟩ := hl
  refine PFun.of [0, 1, 4, 5, 6, 7, 8, 9, 41, 76, 81, 87, 93, 102, 107, 121] Try.func81 rfl (by simp [Try.f81]) ?_
  intro d hd0 hfr hcl hout
  have hcd : ∀ n q, CleanH (hit [((d, n), q)]) H := fun n q => hcl.at
  have ha_n : ∀ n, ¬ (d, n) = r := fun n => nm_ne (ne_of_arr hfr ha)
  have ha_d : ¬ r.1 = d := ne_of_arr hfr ha
  have ha_m : ∀ n, ¬ r = (d, n) := fun n => nm_ne' (ne_of_arr hfr ha)
  have a3_n : ∀ n, ¬ (d, n) = r3 := fun n => nm_ne (ne_of_arr hfr a3)
  have a3_d : ¬ r3.1 = d := ne_of_arr hfr a3
  have a3_m : ∀ n, ¬ r3 = (d, n) := fun n => nm_ne' (ne_of_arr hfr a3)
  simp (maxSteps := 4000000) [hd0, hfr, hout, hcl, hcd, delA_none, ha, ha_n, ha_d, ha_m, a3, a3_n, a3_d, a3_m, Try.f81, hi, DCopied.enc]
  have w1 : IntKind.i64.wrap (next - 1) = next - 1 := w64 (by omega) (by omega)
  refine DrawK.intro 25 [0, 1, 5, 41] rfl (by kernel_rfl) (by decide) ?_
  simp (maxSteps := 4000000) [hd0, hfr, hout, hcl, hcd, delA_none, ha, ha_n, ha_d, ha_m, a3, a3_n, a3_d, a3_m, w1]
  refine ⟨_, spec_l1In _ _ _ _, ?_⟩
  by_cases c1 : inR txns[i].id_ 1 (next - 1) = true
  case neg => simp only [Bool.not_eq_true] at c1; simp (maxSteps := 4000000) [hd0, hfr, hout, hcl, hcd, delA_none, ha, ha_n, ha_d, ha_m, a3, a3_n, a3_d, a3_m, c1, tF]
  rw [c1]
  simp (maxSteps := 4000000) [hd0, hfr, hout, hcl, hcd, delA_none, ha, ha_n, ha_d, ha_m, a3, a3_n, a3_d, a3_m]
  refine ⟨_, spec_l1In _ _ _ _, ?_⟩
  by_cases c2 : inR txns[i].at_ 0 clock = true
  case neg => simp only [Bool.not_eq_true] at c2; simp (maxSteps := 4000000) [hd0, hfr, hout, hcl, hcd, delA_none, ha, ha_n, ha_d, ha_m, a3, a3_n, a3_d, a3_m, c1, c2, tF]
  rw [c2]
  simp (maxSteps := 4000000) [hd0, hfr, hout, hcl, hcd, delA_none, ha, ha_n, ha_d, ha_m, a3, a3_n, a3_d, a3_m]
  refine ⟨_, spec_l1In _ _ _ _, ?_⟩
  by_cases c3 : inR txns[i].state 1 3 = true
  case neg => simp only [Bool.not_eq_true] at c3; simp (maxSteps := 4000000) [hd0, hfr, hout, hcl, hcd, delA_none, ha, ha_n, ha_d, ha_m, a3, a3_n, a3_d, a3_m, c1, c2, c3, tF]
  rw [c3]
  simp (maxSteps := 4000000) [hd0, hfr, hout, hcl, hcd, delA_none, ha, ha_n, ha_d, ha_m, a3, a3_n, a3_d, a3_m]
  refine DrawK.intro 35 [5, 76] rfl (by kernel_rfl) (by decide) ?_
  have hcc : (!inR txns[i].id_ 1 (next - 1) || !inR txns[i].at_ 0 clock || !inR txns[i].state 1 3) = false := by simp [c1, c2, c3]
  have ws1 : IntKind.i64.wrap ((txns[i].start.length : Int) + txns[i].now.length) = txns[i].start.length + txns[i].now.length := w64 (by omega) (by omega)
  have ws2 : IntKind.i64.wrap ((txns[i].start.length : Int) + txns[i].now.length + txns[i].wrote.length) = txns[i].start.length + txns[i].now.length + txns[i].wrote.length := w64 (by omega) (by omega)
  by_cases hc : nab (prv DCopied.id_ txns i) txns[i].id_ = true ∨ (txns[i].state ≠ 1 ∧ 0 < txns[i].start.length + txns[i].now.length + txns[i].wrote.length)
  case pos =>
    have hF : tF next clock (prv DCopied.id_ txns i) txns[i] = 1 := by unfold tF; rw [hcc, if_neg (by simp), if_pos hc]
    rw [hF]
    by_cases h0 : i = 0
    · have hc' := hc.resolve_left (by simp [h0, prv, nab])
      simp (maxSteps := 4000000) [hd0, hfr, hout, hcl, hcd, delA_none, ha, ha_n, ha_d, ha_m, a3, a3_n, a3_d, a3_m, show ¬ (0 : Int) < (i : Int) by omega, show ¬ 0 < i by omega, hc'.1, ws1, ws2, show (0 : Int) < (txns[i].start.length : Int) + txns[i].now.length + txns[i].wrote.length by omega]
    · have h3 : i - 1 < txns.length := by omega
      have w2 : IntKind.i64.wrap ((i : Int) - 1) = (i - 1 : Nat) := by rw [w64 (by omega) (by omega)]; omega
      rw [prv_pos h0 h3] at hc
      by_cases h4 : txns[i].id_ ≤ txns[i-1].id_
      · simp (maxSteps := 4000000) [hd0, hfr, hout, hcl, hcd, delA_none, ha, ha_n, ha_d, ha_m, a3, a3_n, a3_d, a3_m, show (0 : Int) < (i : Int) by omega, show 0 < i by omega, w2, h3, DCopied.enc, h4]
      · have hc' := hc.resolve_left (by simp [nab, h4])
        simp (maxSteps := 4000000) [hd0, hfr, hout, hcl, hcd, delA_none, ha, ha_n, ha_d, ha_m, a3, a3_n, a3_d, a3_m, show (0 : Int) < (i : Int) by omega, show 0 < i by omega, w2, h3, DCopied.enc, h4, hc'.1, ws1, ws2, show (0 : Int) < (txns[i].start.length : Int) + txns[i].now.length + txns[i].wrote.length by omega]
  case neg =>
  have hF : tF next clock (prv DCopied.id_ txns i) txns[i] = if cellsF none txns[i].start ≠ 0 then cellsF none txns[i].start else if cellsF none txns[i].now ≠ 0 then cellsF none txns[i].now else wrF txns[i].wrote := by
    conv => lhs; unfold tF
    rw [hcc, if_neg (by simp), if_neg hc]
  rw [hF]
  clear hF
  have hlen : txns[i].state ≠ 1 → ¬ (0 : Int) < (txns[i].start.length : Int) + txns[i].now.length + txns[i].wrote.length := fun hs h => hc (.inr ⟨hs, by omega⟩)
  have hpv : i ≠ 0 → ∀ (h3 : i - 1 < txns.length), ¬ txns[i].id_ ≤ txns[i-1].id_ := fun h0 h3 h => hc (.inl (by rw [prv_pos h0 h3]; simp [nab, h]))
  clear hc hcc
  by_cases h0 : i = 0
  · by_cases st : txns[i].state = 1
    · simp (maxSteps := 4000000) [hd0, hfr, hout, hcl, hcd, delA_none, ha, ha_n, ha_d, ha_m, a3, a3_n, a3_d, a3_m, show ¬ (0 : Int) < (i : Int) by omega, show ¬ 0 < i by omega, st]
      clear hpv hlen
      refine (spec_l9Cells _ l1 (by simp (maxSteps := 4000000) [hd0, hfr, hout, hcl, hcd, delA_none, ha, ha_n, ha_d, ha_m, a3, a3_n, a3_d, a3_m, s1])).useCK ?_
      by_cases k1 : cellsF none txns[i].start = 0
      case neg => simp (maxSteps := 4000000) [hd0, hfr, hout, hcl, hcd, delA_none, ha, ha_n, ha_d, ha_m, a3, a3_n, a3_d, a3_m, k1]
      simp (maxSteps := 4000000) [hd0, hfr, hout, hcl, hcd, delA_none, ha, ha_n, ha_d, ha_m, a3, a3_n, a3_d, a3_m, k1]
      refine (spec_l9Cells _ l2 (by simp (maxSteps := 4000000) [hd0, hfr, hout, hcl, hcd, delA_none, ha, ha_n, ha_d, ha_m, a3, a3_n, a3_d, a3_m, s2])).useCK ?_
      by_cases k2 : cellsF none txns[i].now = 0
      case neg => simp (maxSteps := 4000000) [hd0, hfr, hout, hcl, hcd, delA_none, ha, ha_n, ha_d, ha_m, a3, a3_n, a3_d, a3_m, k1, k2]
      simp (maxSteps := 4000000) [hd0, hfr, hout, hcl, hcd, delA_none, ha, ha_n, ha_d, ha_m, a3, a3_n, a3_d, a3_m, k2]
      refine LoopK.intro (fun m s => ∃ j : Nat, j + m = txns[i].wrote.length ∧ (txns[i].wrote.any fun k => !inR k 0 31) = ((txns[i].wrote.drop j).any fun k => !inR k 0 31) ∧ s = ⟨[(5, .c (.pt (d, 5) [] 6 0 0)), (8, I j)], ((d, 5), .own 6 [[.v (.int .i64 txns[i].id_), .v (.int .i64 txns[i].at_), .v (.int .i64 txns[i].state), .sl r3 (q3 ++ [(i, 3)]) 2 0 txns[i].start.length, .sl r3 (q3 ++ [(i, 4)]) 2 0 txns[i].now.length, .sl r3 (q3 ++ [(i, 5)]) 1 0 txns[i].wrote.length]]) :: H, []⟩) (txns[i].wrote.length + 1)
        (LK.intro txns[i].wrote.length [5, 8] [] (by omega) (by decide) (by simp (maxSteps := 4000000) [hd0, hfr, hout, hcl, hcd, delA_none, ha, ha_n, ha_d, ha_m, a3, a3_n, a3_d, a3_m]) ⟨0, by simp [st]⟩) ?_
      rintro m s ⟨j, hjm, hP, rfl⟩
      by_cases hj : j < txns[i].wrote.length
      · rw [List.drop_eq_getElem_cons hj, List.any_cons] at hP
        have w1 : IntKind.i64.wrap ((j : Int) + 1) = j + 1 := w64 (by omega) (by omega)
        simp (maxSteps := 4000000) [hd0, hfr, hout, hcl, hcd, delA_none, ha, ha_n, ha_d, ha_m, a3, a3_n, a3_d, a3_m, show (j : Int) < txns[i].wrote.length by omega, s3, hj, encI]
        refine (spec_l1Key _ _).useCK ?_
        by_cases c4 : inR txns[i].wrote[j] 0 31 = true
        · rw [c4]
          simp (maxSteps := 4000000) [hd0, hfr, hout, hcl, hcd, delA_none, ha, ha_n, ha_d, ha_m, a3, a3_n, a3_d, a3_m, w1]
          refine LK.intro (m - 1) [5, 8] [] (by omega) (by decide) (by simp (maxSteps := 4000000) [hd0, hfr, hout, hcl, hcd, delA_none, ha, ha_n, ha_d, ha_m, a3, a3_n, a3_d, a3_m]) ⟨j + 1, by omega, by simpa [c4] using hP, by simp⟩
        · simp only [Bool.not_eq_true] at c4
          have hW : wrF txns[i].wrote = 3 := by unfold wrF; rw [if_pos (by rw [hP]; simp [c4])]
          rw [c4]
          simp (maxSteps := 4000000) [hd0, hfr, hout, hcl, hcd, delA_none, ha, ha_n, ha_d, ha_m, a3, a3_n, a3_d, a3_m, hW]
      rw [List.drop_eq_nil_of_le (by omega), List.any_nil] at hP
      have hW : wrF txns[i].wrote = if riseF none txns[i].wrote = false then 1 else 0 := by unfold wrF; rw [if_neg (by simp [hP])]
      simp (maxSteps := 4000000) [hd0, hfr, hout, hcl, hcd, delA_none, ha, ha_n, ha_d, ha_m, a3, a3_n, a3_d, a3_m, show ¬ (j : Int) < txns[i].wrote.length by omega]
      refine LoopK.intro (fun m s => ∃ j : Nat, j + m = txns[i].wrote.length + 1 ∧ 1 ≤ j ∧ riseF (prv id txns[i].wrote j) (txns[i].wrote.drop j) = riseF none txns[i].wrote ∧ s = ⟨[(5, .c (.pt (d, 5) [] 6 0 0)), (9, I j)], ((d, 5), .own 6 [[.v (.int .i64 txns[i].id_), .v (.int .i64 txns[i].at_), .v (.int .i64 txns[i].state), .sl r3 (q3 ++ [(i, 3)]) 2 0 txns[i].start.length, .sl r3 (q3 ++ [(i, 4)]) 2 0 txns[i].now.length, .sl r3 (q3 ++ [(i, 5)]) 1 0 txns[i].wrote.length]]) :: H, []⟩) (txns[i].wrote.length + 1)
        (LK.intro txns[i].wrote.length [5, 9] [] (by omega) (by decide) (by simp (maxSteps := 4000000) [hd0, hfr, hout, hcl, hcd, delA_none, ha, ha_n, ha_d, ha_m, a3, a3_n, a3_d, a3_m]) ⟨1, by omega, by omega, riseF_start, by simp⟩) ?_
      clear hjm hj m j
      rintro m s ⟨j, hjm, hj1, hinv, rfl⟩
      by_cases hj : j < txns[i].wrote.length
      · rw [List.drop_eq_getElem_cons hj] at hinv
        simp only [riseF] at hinv
        have w1 : IntKind.i64.wrap ((j : Int) + 1) = j + 1 := w64 (by omega) (by omega)
        have hend := prv_succ (f := id) hj
        have h3 : j - 1 < txns[i].wrote.length := by omega
        rw [prv_pos (by omega) h3] at hinv
        have w2 : IntKind.i64.wrap ((j : Int) - 1) = (j - 1 : Nat) := by rw [w64 (by omega) (by omega)]; omega
        simp (maxSteps := 4000000) [hd0, hfr, hout, hcl, hcd, delA_none, ha, ha_n, ha_d, ha_m, a3, a3_n, a3_d, a3_m, show (j : Int) < txns[i].wrote.length by omega]
        refine DrawK.intro 12 [5, 9, 121] rfl (by kernel_rfl) (by decide) ?_
        by_cases h4 : txns[i].wrote[j] ≤ txns[i].wrote[j-1]
        · simp [nab, h4] at hinv
          have hW1 : wrF txns[i].wrote = 1 := by rw [hW, if_pos hinv]
          simp (maxSteps := 4000000) [hd0, hfr, hout, hcl, hcd, delA_none, ha, ha_n, ha_d, ha_m, a3, a3_n, a3_d, a3_m, w2, h3, hj, encI, h4, s3, hW1]
        · simp [nab, h4] at hinv
          simp (maxSteps := 4000000) [hd0, hfr, hout, hcl, hcd, delA_none, ha, ha_n, ha_d, ha_m, a3, a3_n, a3_d, a3_m, w1, w2, h3, hj, encI, h4, s3]
          refine LK.intro (m - 1) [5, 9] [] (by omega) (by decide) (by simp (maxSteps := 4000000) [hd0, hfr, hout, hcl, hcd, delA_none, ha, ha_n, ha_d, ha_m, a3, a3_n, a3_d, a3_m]) ⟨j + 1, by omega, by omega, by rw [hend]; exact hinv, by simp⟩
      rw [List.drop_eq_nil_of_le (by omega)] at hinv
      simp only [riseF] at hinv
      have hW0 : wrF txns[i].wrote = 0 := by rw [hW, if_neg (by simp [← hinv])]
      simp (maxSteps := 4000000) [hd0, hfr, hout, hcl, hcd, delA_none, ha, ha_n, ha_d, ha_m, a3, a3_n, a3_d, a3_m, show ¬ (j : Int) < txns[i].wrote.length by omega, hW0]
    · simp (maxSteps := 4000000) [hd0, hfr, hout, hcl, hcd, delA_none, ha, ha_n, ha_d, ha_m, a3, a3_n, a3_d, a3_m, show ¬ (0 : Int) < (i : Int) by omega, show ¬ 0 < i by omega, st, ws1, ws2, hlen st]
      clear hpv hlen
      refine (spec_l9Cells _ l1 (by simp (maxSteps := 4000000) [hd0, hfr, hout, hcl, hcd, delA_none, ha, ha_n, ha_d, ha_m, a3, a3_n, a3_d, a3_m, s1])).useCK ?_
      by_cases k1 : cellsF none txns[i].start = 0
      case neg => simp (maxSteps := 4000000) [hd0, hfr, hout, hcl, hcd, delA_none, ha, ha_n, ha_d, ha_m, a3, a3_n, a3_d, a3_m, k1]
      simp (maxSteps := 4000000) [hd0, hfr, hout, hcl, hcd, delA_none, ha, ha_n, ha_d, ha_m, a3, a3_n, a3_d, a3_m, k1]
      refine (spec_l9Cells _ l2 (by simp (maxSteps := 4000000) [hd0, hfr, hout, hcl, hcd, delA_none, ha, ha_n, ha_d, ha_m, a3, a3_n, a3_d, a3_m, s2])).useCK ?_
      by_cases k2 : cellsF none txns[i].now = 0
      case neg => simp (maxSteps := 4000000) [hd0, hfr, hout, hcl, hcd, delA_none, ha, ha_n, ha_d, ha_m, a3, a3_n, a3_d, a3_m, k1, k2]
      simp (maxSteps := 4000000) [hd0, hfr, hout, hcl, hcd, delA_none, ha, ha_n, ha_d, ha_m, a3, a3_n, a3_d, a3_m, k2]
      refine LoopK.intro (fun m s => ∃ j : Nat, j + m = txns[i].wrote.length ∧ (txns[i].wrote.any fun k => !inR k 0 31) = ((txns[i].wrote.drop j).any fun k => !inR k 0 31) ∧ s = ⟨[(5, .c (.pt (d, 5) [] 6 0 0)), (8, I j)], ((d, 5), .own 6 [[.v (.int .i64 txns[i].id_), .v (.int .i64 txns[i].at_), .v (.int .i64 txns[i].state), .sl r3 (q3 ++ [(i, 3)]) 2 0 txns[i].start.length, .sl r3 (q3 ++ [(i, 4)]) 2 0 txns[i].now.length, .sl r3 (q3 ++ [(i, 5)]) 1 0 txns[i].wrote.length]]) :: H, []⟩) (txns[i].wrote.length + 1)
        (LK.intro txns[i].wrote.length [5, 8] [] (by omega) (by decide) (by simp (maxSteps := 4000000) [hd0, hfr, hout, hcl, hcd, delA_none, ha, ha_n, ha_d, ha_m, a3, a3_n, a3_d, a3_m]) ⟨0, by simp [st]⟩) ?_
      rintro m s ⟨j, hjm, hP, rfl⟩
      by_cases hj : j < txns[i].wrote.length
      · rw [List.drop_eq_getElem_cons hj, List.any_cons] at hP
        have w1 : IntKind.i64.wrap ((j : Int) + 1) = j + 1 := w64 (by omega) (by omega)
        simp (maxSteps := 4000000) [hd0, hfr, hout, hcl, hcd, delA_none, ha, ha_n, ha_d, ha_m, a3, a3_n, a3_d, a3_m, show (j : Int) < txns[i].wrote.length by omega, s3, hj, encI]
        refine (spec_l1Key _ _).useCK ?_
        by_cases c4 : inR txns[i].wrote[j] 0 31 = true
        · rw [c4]
          simp (maxSteps := 4000000) [hd0, hfr, hout, hcl, hcd, delA_none, ha, ha_n, ha_d, ha_m, a3, a3_n, a3_d, a3_m, w1]
          refine LK.intro (m - 1) [5, 8] [] (by omega) (by decide) (by simp (maxSteps := 4000000) [hd0, hfr, hout, hcl, hcd, delA_none, ha, ha_n, ha_d, ha_m, a3, a3_n, a3_d, a3_m]) ⟨j + 1, by omega, by simpa [c4] using hP, by simp⟩
        · simp only [Bool.not_eq_true] at c4
          have hW : wrF txns[i].wrote = 3 := by unfold wrF; rw [if_pos (by rw [hP]; simp [c4])]
          rw [c4]
          simp (maxSteps := 4000000) [hd0, hfr, hout, hcl, hcd, delA_none, ha, ha_n, ha_d, ha_m, a3, a3_n, a3_d, a3_m, hW]
      rw [List.drop_eq_nil_of_le (by omega), List.any_nil] at hP
      have hW : wrF txns[i].wrote = if riseF none txns[i].wrote = false then 1 else 0 := by unfold wrF; rw [if_neg (by simp [hP])]
      simp (maxSteps := 4000000) [hd0, hfr, hout, hcl, hcd, delA_none, ha, ha_n, ha_d, ha_m, a3, a3_n, a3_d, a3_m, show ¬ (j : Int) < txns[i].wrote.length by omega]
      refine LoopK.intro (fun m s => ∃ j : Nat, j + m = txns[i].wrote.length + 1 ∧ 1 ≤ j ∧ riseF (prv id txns[i].wrote j) (txns[i].wrote.drop j) = riseF none txns[i].wrote ∧ s = ⟨[(5, .c (.pt (d, 5) [] 6 0 0)), (9, I j)], ((d, 5), .own 6 [[.v (.int .i64 txns[i].id_), .v (.int .i64 txns[i].at_), .v (.int .i64 txns[i].state), .sl r3 (q3 ++ [(i, 3)]) 2 0 txns[i].start.length, .sl r3 (q3 ++ [(i, 4)]) 2 0 txns[i].now.length, .sl r3 (q3 ++ [(i, 5)]) 1 0 txns[i].wrote.length]]) :: H, []⟩) (txns[i].wrote.length + 1)
        (LK.intro txns[i].wrote.length [5, 9] [] (by omega) (by decide) (by simp (maxSteps := 4000000) [hd0, hfr, hout, hcl, hcd, delA_none, ha, ha_n, ha_d, ha_m, a3, a3_n, a3_d, a3_m]) ⟨1, by omega, by omega, riseF_start, by simp⟩) ?_
      clear hjm hj m j
      rintro m s ⟨j, hjm, hj1, hinv, rfl⟩
      by_cases hj : j < txns[i].wrote.length
      · rw [List.drop_eq_getElem_cons hj] at hinv
        simp only [riseF] at hinv
        have w1 : IntKind.i64.wrap ((j : Int) + 1) = j + 1 := w64 (by omega) (by omega)
        have hend := prv_succ (f := id) hj
        have h3 : j - 1 < txns[i].wrote.length := by omega
        rw [prv_pos (by omega) h3] at hinv
        have w2 : IntKind.i64.wrap ((j : Int) - 1) = (j - 1 : Nat) := by rw [w64 (by omega) (by omega)]; omega
        simp (maxSteps := 4000000) [hd0, hfr, hout, hcl, hcd, delA_none, ha, ha_n, ha_d, ha_m, a3, a3_n, a3_d, a3_m, show (j : Int) < txns[i].wrote.length by omega]
        refine DrawK.intro 12 [5, 9, 121] rfl (by kernel_rfl) (by decide) ?_
        by_cases h4 : txns[i].wrote[j] ≤ txns[i].wrote[j-1]
        · simp [nab, h4] at hinv
          have hW1 : wrF txns[i].wrote = 1 := by rw [hW, if_pos hinv]
          simp (maxSteps := 4000000) [hd0, hfr, hout, hcl, hcd, delA_none, ha, ha_n, ha_d, ha_m, a3, a3_n, a3_d, a3_m, w2, h3, hj, encI, h4, s3, hW1]
        · simp [nab, h4] at hinv
          simp (maxSteps := 4000000) [hd0, hfr, hout, hcl, hcd, delA_none, ha, ha_n, ha_d, ha_m, a3, a3_n, a3_d, a3_m, w1, w2, h3, hj, encI, h4, s3]
          refine LK.intro (m - 1) [5, 9] [] (by omega) (by decide) (by simp (maxSteps := 4000000) [hd0, hfr, hout, hcl, hcd, delA_none, ha, ha_n, ha_d, ha_m, a3, a3_n, a3_d, a3_m]) ⟨j + 1, by omega, by omega, by rw [hend]; exact hinv, by simp⟩
      rw [List.drop_eq_nil_of_le (by omega)] at hinv
      simp only [riseF] at hinv
      have hW0 : wrF txns[i].wrote = 0 := by rw [hW, if_neg (by simp [← hinv])]
      simp (maxSteps := 4000000) [hd0, hfr, hout, hcl, hcd, delA_none, ha, ha_n, ha_d, ha_m, a3, a3_n, a3_d, a3_m, show ¬ (j : Int) < txns[i].wrote.length by omega, hW0]
  · have h3 : i - 1 < txns.length := by omega
    have w2 : IntKind.i64.wrap ((i : Int) - 1) = (i - 1 : Nat) := by rw [w64 (by omega) (by omega)]; omega
    have h4 := hpv h0 h3
    by_cases st : txns[i].state = 1
    · simp (maxSteps := 4000000) [hd0, hfr, hout, hcl, hcd, delA_none, ha, ha_n, ha_d, ha_m, a3, a3_n, a3_d, a3_m, show (0 : Int) < (i : Int) by omega, show 0 < i by omega, w2, h3, DCopied.enc, h4, st]
      clear hpv hlen
      refine (spec_l9Cells _ l1 (by simp (maxSteps := 4000000) [hd0, hfr, hout, hcl, hcd, delA_none, ha, ha_n, ha_d, ha_m, a3, a3_n, a3_d, a3_m, s1])).useCK ?_
      by_cases k1 : cellsF none txns[i].start = 0
      case neg => simp (maxSteps := 4000000) [hd0, hfr, hout, hcl, hcd, delA_none, ha, ha_n, ha_d, ha_m, a3, a3_n, a3_d, a3_m, k1]
      simp (maxSteps := 4000000) [hd0, hfr, hout, hcl, hcd, delA_none, ha, ha_n, ha_d, ha_m, a3, a3_n, a3_d, a3_m, k1]
      refine (spec_l9Cells _ l2 (by simp (maxSteps := 4000000) [hd0, hfr, hout, hcl, hcd, delA_none, ha, ha_n, ha_d, ha_m, a3, a3_n, a3_d, a3_m, s2])).useCK ?_
      by_cases k2 : cellsF none txns[i].now = 0
      case neg => simp (maxSteps := 4000000) [hd0, hfr, hout, hcl, hcd, delA_none, ha, ha_n, ha_d, ha_m, a3, a3_n, a3_d, a3_m, k1, k2]
      simp (maxSteps := 4000000) [hd0, hfr, hout, hcl, hcd, delA_none, ha, ha_n, ha_d, ha_m, a3, a3_n, a3_d, a3_m, k2]
      refine LoopK.intro (fun m s => ∃ j : Nat, j + m = txns[i].wrote.length ∧ (txns[i].wrote.any fun k => !inR k 0 31) = ((txns[i].wrote.drop j).any fun k => !inR k 0 31) ∧ s = ⟨[(5, .c (.pt (d, 5) [] 6 0 0)), (8, I j)], ((d, 5), .own 6 [[.v (.int .i64 txns[i].id_), .v (.int .i64 txns[i].at_), .v (.int .i64 txns[i].state), .sl r3 (q3 ++ [(i, 3)]) 2 0 txns[i].start.length, .sl r3 (q3 ++ [(i, 4)]) 2 0 txns[i].now.length, .sl r3 (q3 ++ [(i, 5)]) 1 0 txns[i].wrote.length]]) :: H, []⟩) (txns[i].wrote.length + 1)
        (LK.intro txns[i].wrote.length [5, 8] [] (by omega) (by decide) (by simp (maxSteps := 4000000) [hd0, hfr, hout, hcl, hcd, delA_none, ha, ha_n, ha_d, ha_m, a3, a3_n, a3_d, a3_m]) ⟨0, by simp [st]⟩) ?_
      rintro m s ⟨j, hjm, hP, rfl⟩
      by_cases hj : j < txns[i].wrote.length
      · rw [List.drop_eq_getElem_cons hj, List.any_cons] at hP
        have w1 : IntKind.i64.wrap ((j : Int) + 1) = j + 1 := w64 (by omega) (by omega)
        simp (maxSteps := 4000000) [hd0, hfr, hout, hcl, hcd, delA_none, ha, ha_n, ha_d, ha_m, a3, a3_n, a3_d, a3_m, show (j : Int) < txns[i].wrote.length by omega, s3, hj, encI]
        refine (spec_l1Key _ _).useCK ?_
        by_cases c4 : inR txns[i].wrote[j] 0 31 = true
        · rw [c4]
          simp (maxSteps := 4000000) [hd0, hfr, hout, hcl, hcd, delA_none, ha, ha_n, ha_d, ha_m, a3, a3_n, a3_d, a3_m, w1]
          refine LK.intro (m - 1) [5, 8] [] (by omega) (by decide) (by simp (maxSteps := 4000000) [hd0, hfr, hout, hcl, hcd, delA_none, ha, ha_n, ha_d, ha_m, a3, a3_n, a3_d, a3_m]) ⟨j + 1, by omega, by simpa [c4] using hP, by simp⟩
        · simp only [Bool.not_eq_true] at c4
          have hW : wrF txns[i].wrote = 3 := by unfold wrF; rw [if_pos (by rw [hP]; simp [c4])]
          rw [c4]
          simp (maxSteps := 4000000) [hd0, hfr, hout, hcl, hcd, delA_none, ha, ha_n, ha_d, ha_m, a3, a3_n, a3_d, a3_m, hW]
      rw [List.drop_eq_nil_of_le (by omega), List.any_nil] at hP
      have hW : wrF txns[i].wrote = if riseF none txns[i].wrote = false then 1 else 0 := by unfold wrF; rw [if_neg (by simp [hP])]
      simp (maxSteps := 4000000) [hd0, hfr, hout, hcl, hcd, delA_none, ha, ha_n, ha_d, ha_m, a3, a3_n, a3_d, a3_m, show ¬ (j : Int) < txns[i].wrote.length by omega]
      refine LoopK.intro (fun m s => ∃ j : Nat, j + m = txns[i].wrote.length + 1 ∧ 1 ≤ j ∧ riseF (prv id txns[i].wrote j) (txns[i].wrote.drop j) = riseF none txns[i].wrote ∧ s = ⟨[(5, .c (.pt (d, 5) [] 6 0 0)), (9, I j)], ((d, 5), .own 6 [[.v (.int .i64 txns[i].id_), .v (.int .i64 txns[i].at_), .v (.int .i64 txns[i].state), .sl r3 (q3 ++ [(i, 3)]) 2 0 txns[i].start.length, .sl r3 (q3 ++ [(i, 4)]) 2 0 txns[i].now.length, .sl r3 (q3 ++ [(i, 5)]) 1 0 txns[i].wrote.length]]) :: H, []⟩) (txns[i].wrote.length + 1)
        (LK.intro txns[i].wrote.length [5, 9] [] (by omega) (by decide) (by simp (maxSteps := 4000000) [hd0, hfr, hout, hcl, hcd, delA_none, ha, ha_n, ha_d, ha_m, a3, a3_n, a3_d, a3_m]) ⟨1, by omega, by omega, riseF_start, by simp⟩) ?_
      clear hjm hj m j
      rintro m s ⟨j, hjm, hj1, hinv, rfl⟩
      by_cases hj : j < txns[i].wrote.length
      · rw [List.drop_eq_getElem_cons hj] at hinv
        simp only [riseF] at hinv
        have w1 : IntKind.i64.wrap ((j : Int) + 1) = j + 1 := w64 (by omega) (by omega)
        have hend := prv_succ (f := id) hj
        have h3 : j - 1 < txns[i].wrote.length := by omega
        rw [prv_pos (by omega) h3] at hinv
        have w2 : IntKind.i64.wrap ((j : Int) - 1) = (j - 1 : Nat) := by rw [w64 (by omega) (by omega)]; omega
        simp (maxSteps := 4000000) [hd0, hfr, hout, hcl, hcd, delA_none, ha, ha_n, ha_d, ha_m, a3, a3_n, a3_d, a3_m, show (j : Int) < txns[i].wrote.length by omega]
        refine DrawK.intro 12 [5, 9, 121] rfl (by kernel_rfl) (by decide) ?_
        by_cases h4 : txns[i].wrote[j] ≤ txns[i].wrote[j-1]
        · simp [nab, h4] at hinv
          have hW1 : wrF txns[i].wrote = 1 := by rw [hW, if_pos hinv]
          simp (maxSteps := 4000000) [hd0, hfr, hout, hcl, hcd, delA_none, ha, ha_n, ha_d, ha_m, a3, a3_n, a3_d, a3_m, w2, h3, hj, encI, h4, s3, hW1]
        · simp [nab, h4] at hinv
          simp (maxSteps := 4000000) [hd0, hfr, hout, hcl, hcd, delA_none, ha, ha_n, ha_d, ha_m, a3, a3_n, a3_d, a3_m, w1, w2, h3, hj, encI, h4, s3]
          refine LK.intro (m - 1) [5, 9] [] (by omega) (by decide) (by simp (maxSteps := 4000000) [hd0, hfr, hout, hcl, hcd, delA_none, ha, ha_n, ha_d, ha_m, a3, a3_n, a3_d, a3_m]) ⟨j + 1, by omega, by omega, by rw [hend]; exact hinv, by simp⟩
      rw [List.drop_eq_nil_of_le (by omega)] at hinv
      simp only [riseF] at hinv
      have hW0 : wrF txns[i].wrote = 0 := by rw [hW, if_neg (by simp [← hinv])]
      simp (maxSteps := 4000000) [hd0, hfr, hout, hcl, hcd, delA_none, ha, ha_n, ha_d, ha_m, a3, a3_n, a3_d, a3_m, show ¬ (j : Int) < txns[i].wrote.length by omega, hW0]
    · simp (maxSteps := 4000000) [hd0, hfr, hout, hcl, hcd, delA_none, ha, ha_n, ha_d, ha_m, a3, a3_n, a3_d, a3_m, show (0 : Int) < (i : Int) by omega, show 0 < i by omega, w2, h3, DCopied.enc, h4, st, ws1, ws2, hlen st]
      clear hpv hlen
      refine (spec_l9Cells _ l1 (by simp (maxSteps := 4000000) [hd0, hfr, hout, hcl, hcd, delA_none, ha, ha_n, ha_d, ha_m, a3, a3_n, a3_d, a3_m, s1])).useCK ?_
      by_cases k1 : cellsF none txns[i].start = 0
      case neg => simp (maxSteps := 4000000) [hd0, hfr, hout, hcl, hcd, delA_none, ha, ha_n, ha_d, ha_m, a3, a3_n, a3_d, a3_m, k1]
      simp (maxSteps := 4000000) [hd0, hfr, hout, hcl, hcd, delA_none, ha, ha_n, ha_d, ha_m, a3, a3_n, a3_d, a3_m, k1]
      refine (spec_l9Cells _ l2 (by simp (maxSteps := 4000000) [hd0, hfr, hout, hcl, hcd, delA_none, ha, ha_n, ha_d, ha_m, a3, a3_n, a3_d, a3_m, s2])).useCK ?_
      by_cases k2 : cellsF none txns[i].now = 0
      case neg => simp (maxSteps := 4000000) [hd0, hfr, hout, hcl, hcd, delA_none, ha, ha_n, ha_d, ha_m, a3, a3_n, a3_d, a3_m, k1, k2]
      simp (maxSteps := 4000000) [hd0, hfr, hout, hcl, hcd, delA_none, ha, ha_n, ha_d, ha_m, a3, a3_n, a3_d, a3_m, k2]
      refine LoopK.intro (fun m s => ∃ j : Nat, j + m = txns[i].wrote.length ∧ (txns[i].wrote.any fun k => !inR k 0 31) = ((txns[i].wrote.drop j).any fun k => !inR k 0 31) ∧ s = ⟨[(5, .c (.pt (d, 5) [] 6 0 0)), (8, I j)], ((d, 5), .own 6 [[.v (.int .i64 txns[i].id_), .v (.int .i64 txns[i].at_), .v (.int .i64 txns[i].state), .sl r3 (q3 ++ [(i, 3)]) 2 0 txns[i].start.length, .sl r3 (q3 ++ [(i, 4)]) 2 0 txns[i].now.length, .sl r3 (q3 ++ [(i, 5)]) 1 0 txns[i].wrote.length]]) :: H, []⟩) (txns[i].wrote.length + 1)
        (LK.intro txns[i].wrote.length [5, 8] [] (by omega) (by decide) (by simp (maxSteps := 4000000) [hd0, hfr, hout, hcl, hcd, delA_none, ha, ha_n, ha_d, ha_m, a3, a3_n, a3_d, a3_m]) ⟨0, by simp [st]⟩) ?_
      rintro m s ⟨j, hjm, hP, rfl⟩
      by_cases hj : j < txns[i].wrote.length
      · rw [List.drop_eq_getElem_cons hj, List.any_cons] at hP
        have w1 : IntKind.i64.wrap ((j : Int) + 1) = j + 1 := w64 (by omega) (by omega)
        simp (maxSteps := 4000000) [hd0, hfr, hout, hcl, hcd, delA_none, ha, ha_n, ha_d, ha_m, a3, a3_n, a3_d, a3_m, show (j : Int) < txns[i].wrote.length by omega, s3, hj, encI]
        refine (spec_l1Key _ _).useCK ?_
        by_cases c4 : inR txns[i].wrote[j] 0 31 = true
        · rw [c4]
          simp (maxSteps := 4000000) [hd0, hfr, hout, hcl, hcd, delA_none, ha, ha_n, ha_d, ha_m, a3, a3_n, a3_d, a3_m, w1]
          refine LK.intro (m - 1) [5, 8] [] (by omega) (by decide) (by simp (maxSteps := 4000000) [hd0, hfr, hout, hcl, hcd, delA_none, ha, ha_n, ha_d, ha_m, a3, a3_n, a3_d, a3_m]) ⟨j + 1, by omega, by simpa [c4] using hP, by simp⟩
        · simp only [Bool.not_eq_true] at c4
          have hW : wrF txns[i].wrote = 3 := by unfold wrF; rw [if_pos (by rw [hP]; simp [c4])]
          rw [c4]
          simp (maxSteps := 4000000) [hd0, hfr, hout, hcl, hcd, delA_none, ha, ha_n, ha_d, ha_m, a3, a3_n, a3_d, a3_m, hW]
      rw [List.drop_eq_nil_of_le (by omega), List.any_nil] at hP
      have hW : wrF txns[i].wrote = if riseF none txns[i].wrote = false then 1 else 0 := by unfold wrF; rw [if_neg (by simp [hP])]
      simp (maxSteps := 4000000) [hd0, hfr, hout, hcl, hcd, delA_none, ha, ha_n, ha_d, ha_m, a3, a3_n, a3_d, a3_m, show ¬ (j : Int) < txns[i].wrote.length by omega]
      refine LoopK.intro (fun m s => ∃ j : Nat, j + m = txns[i].wrote.length + 1 ∧ 1 ≤ j ∧ riseF (prv id txns[i].wrote j) (txns[i].wrote.drop j) = riseF none txns[i].wrote ∧ s = ⟨[(5, .c (.pt (d, 5) [] 6 0 0)), (9, I j)], ((d, 5), .own 6 [[.v (.int .i64 txns[i].id_), .v (.int .i64 txns[i].at_), .v (.int .i64 txns[i].state), .sl r3 (q3 ++ [(i, 3)]) 2 0 txns[i].start.length, .sl r3 (q3 ++ [(i, 4)]) 2 0 txns[i].now.length, .sl r3 (q3 ++ [(i, 5)]) 1 0 txns[i].wrote.length]]) :: H, []⟩) (txns[i].wrote.length + 1)
        (LK.intro txns[i].wrote.length [5, 9] [] (by omega) (by decide) (by simp (maxSteps := 4000000) [hd0, hfr, hout, hcl, hcd, delA_none, ha, ha_n, ha_d, ha_m, a3, a3_n, a3_d, a3_m]) ⟨1, by omega, by omega, riseF_start, by simp⟩) ?_
      clear hjm hj m j
      rintro m s ⟨j, hjm, hj1, hinv, rfl⟩
      by_cases hj : j < txns[i].wrote.length
      · rw [List.drop_eq_getElem_cons hj] at hinv
        simp only [riseF] at hinv
        have w1 : IntKind.i64.wrap ((j : Int) + 1) = j + 1 := w64 (by omega) (by omega)
        have hend := prv_succ (f := id) hj
        have h3 : j - 1 < txns[i].wrote.length := by omega
        rw [prv_pos (by omega) h3] at hinv
        have w2 : IntKind.i64.wrap ((j : Int) - 1) = (j - 1 : Nat) := by rw [w64 (by omega) (by omega)]; omega
        simp (maxSteps := 4000000) [hd0, hfr, hout, hcl, hcd, delA_none, ha, ha_n, ha_d, ha_m, a3, a3_n, a3_d, a3_m, show (j : Int) < txns[i].wrote.length by omega]
        refine DrawK.intro 12 [5, 9, 121] rfl (by kernel_rfl) (by decide) ?_
        by_cases h4 : txns[i].wrote[j] ≤ txns[i].wrote[j-1]
        · simp [nab, h4] at hinv
          have hW1 : wrF txns[i].wrote = 1 := by rw [hW, if_pos hinv]
          simp (maxSteps := 4000000) [hd0, hfr, hout, hcl, hcd, delA_none, ha, ha_n, ha_d, ha_m, a3, a3_n, a3_d, a3_m, w2, h3, hj, encI, h4, s3, hW1]
        · simp [nab, h4] at hinv
          simp (maxSteps := 4000000) [hd0, hfr, hout, hcl, hcd, delA_none, ha, ha_n, ha_d, ha_m, a3, a3_n, a3_d, a3_m, w1, w2, h3, hj, encI, h4, s3]
          refine LK.intro (m - 1) [5, 9] [] (by omega) (by decide) (by simp (maxSteps := 4000000) [hd0, hfr, hout, hcl, hcd, delA_none, ha, ha_n, ha_d, ha_m, a3, a3_n, a3_d, a3_m]) ⟨j + 1, by omega, by omega, by rw [hend]; exact hinv, by simp⟩
      rw [List.drop_eq_nil_of_le (by omega)] at hinv
      simp only [riseF] at hinv
      have hW0 : wrF txns[i].wrote = 0 := by rw [hW, if_neg (by simp [← hinv])]
      simp (maxSteps := 4000000) [hd0, hfr, hout, hcl, hcd, delA_none, ha, ha_n, ha_d, ha_m, a3, a3_n, a3_d, a3_m, show ¬ (j : Int) < txns[i].wrote.length by omega, hW0]
end Go.Proofs.Ythejobdlfomcjaa

namespace Go.Proofs.Ythejobdlfomcjaa
open Go Go.Px Go.RowKit Go.Proofs
set_option linter.unnecessarySimpa false
set_option linter.unusedVariables false
set_option linter.unusedSimpArgs false
set_option maxRecDepth 100000
attribute [-simp] Int.not_le Int.not_lt
theorem spec_CopiesFault (H : HH) {r1 q1 r2 q2 r3 q3} {x : DCopies} (hl : x.le 1048576) (a1 : arrAt H r1 q1 = some (2, x.now.map DCell.enc)) (a2 : arrAt H r2 q2 = some (1, x.last.map encI)) (a3 : arrAt H r3 q3 = some (6, x.txns.map DCopied.enc)) :
    PFun Try.prog 15 [.a [.v (.int .i64 x.next), .v (.int .i64 x.clock), .sl r1 q1 2 0 x.now.length, .sl r2 q2 1 0 x.last.length, .sl r3 q3 6 0 x.txns.length]] H (I (copF x)) := by
  obtain ⟨b1, b2, b3, b3p⟩ := hl
  refine PFun.of [1, 2, 3, 4, 5, 6, 16, 20, 24, 29, 40, 45, 51, 57] Try.func15 rfl (by simp [Try.f15]) ?_
  intro d hd0 hfr hcl hout
  have hcd : ∀ n q, CleanH (hit [((d, n), q)]) H := fun n q => hcl.at
  have a1_n : ∀ n, ¬ (d, n) = r1 := fun n => nm_ne (ne_of_arr hfr a1)
  have a1_d : ¬ r1.1 = d := ne_of_arr hfr a1
  have a1_m : ∀ n, ¬ r1 = (d, n) := fun n => nm_ne' (ne_of_arr hfr a1)
  have a2_n : ∀ n, ¬ (d, n) = r2 := fun n => nm_ne (ne_of_arr hfr a2)
  have a2_d : ¬ r2.1 = d := ne_of_arr hfr a2
  have a2_m : ∀ n, ¬ r2 = (d, n) := fun n => nm_ne' (ne_of_arr hfr a2)
  have a3_n : ∀ n, ¬ (d, n) = r3 := fun n => nm_ne (ne_of_arr hfr a3)
  have a3_d : ¬ r3.1 = d := ne_of_arr hfr a3
  have a3_m : ∀ n, ¬ r3 = (d, n) := fun n => nm_ne' (ne_of_arr hfr a3)
  simp (maxSteps := 4000000) [hd0, hfr, hout, hcl, hcd, delA_none, a1, a1_n, a1_d, a1_m, a2, a2_n, a2_d, a2_m, a3, a3_n, a3_d, a3_m, Try.f15]
  refine (spec_l5Txn _ _).useCK ?_
  by_cases c1 : inR x.next 1 999 = true
  case neg => simp only [Bool.not_eq_true] at c1; simp (maxSteps := 4000000) [hd0, hfr, hout, hcl, hcd, delA_none, a1, a1_n, a1_d, a1_m, a2, a2_n, a2_d, a2_m, a3, a3_n, a3_d, a3_m, c1, copF]
  rw [c1]
  simp (maxSteps := 4000000) [hd0, hfr, hout, hcl, hcd, delA_none, a1, a1_n, a1_d, a1_m, a2, a2_n, a2_d, a2_m, a3, a3_n, a3_d, a3_m]
  refine (spec_l1In _ _ _ _).useCK ?_
  by_cases c2 : inR x.clock 0 1000000 = true
  case neg => simp only [Bool.not_eq_true] at c2; simp (maxSteps := 4000000) [hd0, hfr, hout, hcl, hcd, delA_none, a1, a1_n, a1_d, a1_m, a2, a2_n, a2_d, a2_m, a3, a3_n, a3_d, a3_m, c1, c2, copF]
  rw [c2]
  by_cases g1 : 20 < x.txns.length
  case pos => simp (maxSteps := 4000000) [hd0, hfr, hout, hcl, hcd, delA_none, a1, a1_n, a1_d, a1_m, a2, a2_n, a2_d, a2_m, a3, a3_n, a3_d, a3_m, show 20 < (x.txns.length : Int) by omega, c1, c2, g1, copF]
  simp (maxSteps := 4000000) [hd0, hfr, hout, hcl, hcd, delA_none, a1, a1_n, a1_d, a1_m, a2, a2_n, a2_d, a2_m, a3, a3_n, a3_d, a3_m, show ¬ 20 < (x.txns.length : Int) by omega]
  by_cases g2 : x.last.length = 32
  case neg => simp (maxSteps := 4000000) [hd0, hfr, hout, hcl, hcd, delA_none, a1, a1_n, a1_d, a1_m, a2, a2_n, a2_d, a2_m, a3, a3_n, a3_d, a3_m, show ¬ (x.last.length : Int) = 32 by omega, c1, c2, g1, g2, copF]
  simp (maxSteps := 4000000) [hd0, hfr, hout, hcl, hcd, delA_none, a1, a1_n, a1_d, a1_m, a2, a2_n, a2_d, a2_m, a3, a3_n, a3_d, a3_m, g2]
  have hcc : (!inR x.next 1 999 || !inR x.clock 0 1000000) = false := by simp [c1, c2]
  refine LoopK.intro (fun m s => ∃ i : Nat, i + m = 32 ∧ (x.last.any fun n => !inR n 0 x.clock) = ((x.last.drop i).any fun n => !inR n 0 x.clock) ∧ s = ⟨[(1, .c (.pt (d, 1) [] 5 0 0)), (3, I i)],
      ((d, 1), .own 5 [[.v (.int .i64 x.next), .v (.int .i64 x.clock), .sl r1 q1 2 0 x.now.length, .sl r2 q2 1 0 32, .sl r3 q3 6 0 x.txns.length]]) :: H, []⟩) (32 + 1)
    (LK.intro 32 [1, 3] [] (by omega) (by decide) (by simp (maxSteps := 4000000) [hd0, hfr, hout, hcl, hcd, delA_none, a1, a1_n, a1_d, a1_m, a2, a2_n, a2_d, a2_m, a3, a3_n, a3_d, a3_m]) ⟨0, by simp⟩) ?_
  rintro m s ⟨i, him, hP, rfl⟩
  by_cases hi' : i < x.last.length
  · rw [List.drop_eq_getElem_cons hi', List.any_cons] at hP
    have w1 : IntKind.i64.wrap ((i : Int) + 1) = i + 1 := w64 (by omega) (by omega)
    simp (maxSteps := 4000000) [hd0, hfr, hout, hcl, hcd, delA_none, a1, a1_n, a1_d, a1_m, a2, a2_n, a2_d, a2_m, a3, a3_n, a3_d, a3_m, show (i : Int) < 32 by omega]
    refine DrawK.intro 9 [1, 3, 40] rfl (by kernel_rfl) (by decide) ?_
    simp (maxSteps := 4000000) [hd0, hfr, hout, hcl, hcd, delA_none, a1, a1_n, a1_d, a1_m, a2, a2_n, a2_d, a2_m, a3, a3_n, a3_d, a3_m, hi', encI, show (i : Int) < 32 by omega, show i < 32 by omega]
    refine ⟨_, spec_l1In _ _ _ _, ?_⟩
    by_cases c3 : inR x.last[i] 0 x.clock = true
    · rw [c3]
      simp (maxSteps := 4000000) [hd0, hfr, hout, hcl, hcd, delA_none, a1, a1_n, a1_d, a1_m, a2, a2_n, a2_d, a2_m, a3, a3_n, a3_d, a3_m, w1]
      refine LK.intro (m - 1) [1, 3] [] (by omega) (by decide) (by simp (maxSteps := 4000000) [hd0, hfr, hout, hcl, hcd, delA_none, a1, a1_n, a1_d, a1_m, a2, a2_n, a2_d, a2_m, a3, a3_n, a3_d, a3_m]) ⟨i + 1, by omega, by simpa [c3] using hP, by simp⟩
    · simp only [Bool.not_eq_true] at c3
      have hF : copF x = 3 := by unfold copF; rw [hcc, if_neg (by simp), if_neg g1, if_neg (by simp [g2]), if_pos (by rw [hP]; simp [c3])]
      rw [c3, hF]
      simp (maxSteps := 4000000) [hd0, hfr, hout, hcl, hcd, delA_none, a1, a1_n, a1_d, a1_m, a2, a2_n, a2_d, a2_m, a3, a3_n, a3_d, a3_m]
  rw [List.drop_eq_nil_of_le (by omega), List.any_nil] at hP
  have hF : copF x = if cellsF none x.now ≠ 0 then cellsF none x.now else txF x.next x.clock none x.txns := by
    conv => lhs; unfold copF
    rw [hcc, if_neg (by simp), if_neg g1, if_neg (by simp [g2]), if_neg (by simp [hP])]
  rw [hF]
  clear hF
  simp (maxSteps := 4000000) [hd0, hfr, hout, hcl, hcd, delA_none, a1, a1_n, a1_d, a1_m, a2, a2_n, a2_d, a2_m, a3, a3_n, a3_d, a3_m, show ¬ (i : Int) < 32 by omega]
  refine (spec_l9Cells _ b1 (by simp (maxSteps := 4000000) [hd0, hfr, hout, hcl, hcd, delA_none, a1, a1_n, a1_d, a1_m, a2, a2_n, a2_d, a2_m, a3, a3_n, a3_d, a3_m])).useCK ?_
  by_cases k1 : cellsF none x.now = 0
  case neg => simp (maxSteps := 4000000) [hd0, hfr, hout, hcl, hcd, delA_none, a1, a1_n, a1_d, a1_m, a2, a2_n, a2_d, a2_m, a3, a3_n, a3_d, a3_m, k1]
  simp (maxSteps := 4000000) [hd0, hfr, hout, hcl, hcd, delA_none, a1, a1_n, a1_d, a1_m, a2, a2_n, a2_d, a2_m, a3, a3_n, a3_d, a3_m, k1]
  have hn : 1 ≤ x.next ∧ x.next ≤ 999 := by simpa [inR] using c1
  refine LoopK.intro (fun m s => ∃ i : Nat, i + m = x.txns.length ∧ txF x.next x.clock (prv DCopied.id_ x.txns i) (x.txns.drop i) = txF x.next x.clock none x.txns ∧ s = ⟨[(1, .c (.pt (d, 1) [] 5 0 0)), (5, I i)],
      ((d, 1), .own 5 [[.v (.int .i64 x.next), .v (.int .i64 x.clock), .sl r1 q1 2 0 x.now.length, .sl r2 q2 1 0 32, .sl r3 q3 6 0 x.txns.length]]) :: H, []⟩) (x.txns.length + 1)
    (LK.intro x.txns.length [1, 5] [] (by omega) (by decide) (by simp (maxSteps := 4000000) [hd0, hfr, hout, hcl, hcd, delA_none, a1, a1_n, a1_d, a1_m, a2, a2_n, a2_d, a2_m, a3, a3_n, a3_d, a3_m]) ⟨0, by simp [prv]⟩) ?_
  clear him hi' m i
  rintro m s ⟨i, him, hinv, rfl⟩
  by_cases hi' : i < x.txns.length
  · rw [List.drop_eq_getElem_cons hi'] at hinv
    simp only [txF] at hinv
    have w1 : IntKind.i64.wrap ((i : Int) + 1) = i + 1 := w64 (by omega) (by omega)
    have hend := prv_succ (f := DCopied.id_) hi'
    simp (maxSteps := 4000000) [hd0, hfr, hout, hcl, hcd, delA_none, a1, a1_n, a1_d, a1_m, a2, a2_n, a2_d, a2_m, a3, a3_n, a3_d, a3_m, show (i : Int) < x.txns.length by omega]
    refine (spec_l9Copied _ (r := (d, 1)) (q := []) (r3 := r3) (q3 := q3) (clock := x.clock) (c2 := .sl r1 q1 2 0 x.now.length) (c3 := .sl r2 q2 1 0 32) (txns := x.txns) (i := i) hn b3 hi' (b3p _ (List.getElem_mem hi')) (by simp (maxSteps := 4000000) [hd0, hfr, hout, hcl, hcd, delA_none, a1, a1_n, a1_d, a1_m, a2, a2_n, a2_d, a2_m, a3, a3_n, a3_d, a3_m]) (by simp (maxSteps := 4000000) [hd0, hfr, hout, hcl, hcd, delA_none, a1, a1_n, a1_d, a1_m, a2, a2_n, a2_d, a2_m, a3, a3_n, a3_d, a3_m])).useCK ?_
    by_cases k2 : tF x.next x.clock (prv DCopied.id_ x.txns i) x.txns[i] = 0
    · simp only [k2, ne_eq, not_true_eq_false, if_false] at hinv
      simp (maxSteps := 4000000) [hd0, hfr, hout, hcl, hcd, delA_none, a1, a1_n, a1_d, a1_m, a2, a2_n, a2_d, a2_m, a3, a3_n, a3_d, a3_m, k2, w1]
      refine LK.intro (m - 1) [1, 5] [] (by omega) (by decide) (by simp (maxSteps := 4000000) [hd0, hfr, hout, hcl, hcd, delA_none, a1, a1_n, a1_d, a1_m, a2, a2_n, a2_d, a2_m, a3, a3_n, a3_d, a3_m]) ⟨i + 1, by omega, by rw [hend]; exact hinv, by simp⟩
    · rw [if_pos k2] at hinv
      rw [← hinv]
      clear hinv
      simp (maxSteps := 4000000) [hd0, hfr, hout, hcl, hcd, delA_none, a1, a1_n, a1_d, a1_m, a2, a2_n, a2_d, a2_m, a3, a3_n, a3_d, a3_m, k2]
  rw [List.drop_eq_nil_of_le (by omega)] at hinv
  simp only [txF] at hinv
  simp (maxSteps := 4000000) [hd0, hfr, hout, hcl, hcd, delA_none, a1, a1_n, a1_d, a1_m, a2, a2_n, a2_d, a2_m, a3, a3_n, a3_d, a3_m, show ¬ (i : Int) < x.txns.length by omega, ← hinv]
end Go.Proofs.Ythejobdlfomcjaa

namespace Go.Px
open Go.RowKit
set_option linter.unusedVariables false
set_option linter.unusedSimpArgs false
set_option linter.constructorNameAsVariable false
/-- what is owned in hand gets a name of its own -/
def refsD (d : Nat) : Nat → List Cell → List Cell
  | _, [] => []
  | k, .own z els :: t => .sl (d, k) [] z 0 els.length :: refsD d (k + 1) t
  | k, c :: t => c :: refsD d (k + 1) t
def rootsD (d : Nat) : Nat → List Cell → HH
  | _, [] => []
  | k, .own z els :: t => ((d, k), .own z els) :: rootsD d (k + 1) t
  | k, c :: t => rootsD d (k + 1) t
def cellsA : List T → List Cell
  | [] => []
  | .a l :: t => l ++ cellsA t
  | .c c :: t => c :: cellsA t
  | _ :: t => cellsA t
def refsA (d : Nat) : Nat → List T → List T
  | _, [] => []
  | k, .a l :: t => .a (refsD d k l) :: refsA d (k + l.length) t
  | k, .c (.own z els) :: t => .c (.sl (d, k) [] z 0 els.length) :: refsA d (k + 1) t
  | k, .c c :: t => .c c :: refsA d (k + 1) t
  | k, x :: t => x :: refsA d k t
def rootable : List T → Bool
  | [] => true
  | .a _ :: t => rootable t
  | .c _ :: t => rootable t
  | _ :: _ => false
theorem Holds.append {g R w β} : ∀ {H1 F1 H2 F2}, Holds g R w β H1 F1 → Holds g R w β H2 F2 → Holds g R w β (H1 ++ H2) (F1 ++ F2)
  | _, _, _, _, .nil, h => h
  | _, _, _, _, .sh h0 hr hb ht, h => .sh h0 hr hb (ht.append h)
  | _, _, _, _, .ow h0 hr ht, h => by rw [List.append_assoc]; exact .ow h0 hr (ht.append h)
theorem Holds.split {g R w β} : ∀ {H1 H2 F}, Holds g R w β (H1 ++ H2) F → ∃ F1 F2, F = F1 ++ F2 ∧ Holds g R w β H1 F1 ∧ Holds g R w β H2 F2
  | [], H2, F, h => ⟨[], F, rfl, .nil, h⟩
  | e :: H1, H2, F, h => by
    cases h with
    | sh h0 hr hb ht =>
      obtain ⟨F1, F2, rfl, h1, h2⟩ := ht.split
      exact ⟨F1, F2, rfl, .sh h0 hr hb h1, h2⟩
    | ow h0 hr ht =>
      obtain ⟨F1, F2, rfl, h1, h2⟩ := ht.split
      exact ⟨_, F2, by rw [← List.append_assoc], .ow h0 hr h1, h2⟩
theorem rootsD_holds {g : Nat} {R : Cell → Value → Prop} {w : World} {β : Nm → Value} {d : Nat} (hd : d ≠ 0) : ∀ {l : List Cell} {vs : List Value} {F : List Nat} {k : Nat}, VRep R w l vs F → (∀ j v, vs[j]? = some v → β (d, k + j) = v) → Holds g R w β (rootsD d k l) F
  | _, _, _, k, .nil, hβ => .nil
  | c :: t, _, _, k, @VRep.cons _ _ _ x F1 _ xs G hc ht, hβ => by
    have hx : β (d, k) = x := by simpa using hβ 0 x (by simp)
    have ih := rootsD_holds (g := g) hd (k := k + 1) ht (fun j v hj => by rw [← hβ (j + 1) v (by simpa using hj)]; congr 2; omega)
    by_cases ho : isOwn c = true
    · cases c with
      | own z els =>
        simp only [rootsD]
        exact .ow hd (by rw [hx]; exact hc) ih
      | _ => simp [isOwn] at ho
    · have hF := hc.bare (by simpa using ho)
      subst hF
      cases c with
      | own z els => simp [isOwn] at ho
      | _ => simpa [rootsD] using ih
theorem refsD_rep {R R' : Cell → Value → Prop} {w : World} {d : Nat} : ∀ {l : List Cell} {vs : List Value} {F : List Nat} {k : Nat}, VRep R w l vs F → (∀ c x, isRef c = true → R c x → R' c x) → (∀ (j : Nat) z els v, l[j]? = some (.own z els) → vs[j]? = some v → R' (.sl (d, k + j) [] z 0 els.length) v) →
    VRep R' w (refsD d k l) vs []
  | _, _, _, k, .nil, hR, hO => .nil
  | c :: t, _, _, k, @VRep.cons _ _ _ x F1 _ xs G hc ht, hR, hO => by
    have ih := refsD_rep (d := d) (k := k + 1) ht hR (fun j z els v hj hv => by have := hO (j + 1) z els v (by simpa using hj) (by simpa using hv); rwa [show k + 1 + j = k + (j + 1) by omega])
    cases c with
    | own z els =>
      simp only [refsD]
      exact VRep.cons (F := []) (.ref rfl hc.flat (by simpa using hO 0 z els x rfl rfl)) ih
    | v y => cases hc with
      | v _ h => simpa [refsD] using VRep.cons (.v _ h) ih
      | ref hi => simp [isRef] at hi
    | x => cases hc with
      | x _ h => simpa [refsD] using VRep.cons (.x _ h) ih
      | ref hi => simp [isRef] at hi
    | sl r q z i n => cases hc with
      | ref hi hf hv => simpa [refsD] using VRep.cons (.ref rfl hf (hR _ _ rfl hv)) ih
    | pt r q z i f => cases hc with
      | ref hi hf hv => simpa [refsD] using VRep.cons (.ref rfl hf (hR _ _ rfl hv)) ih
    | fn f cs => cases hc with
      | ref hi hf hv => simpa [refsD] using VRep.cons (.ref rfl hf (hR _ _ rfl hv)) ih
theorem refsA_rep {R : Cell → Value → Prop} {w : World} {d : Nat} : ∀ {args : List T} {vs : List Value} {FA : List Nat} {k : Nat}, rootable args = true → TReps R w args vs FA → ∃ V, VRep R w (cellsA args) V FA ∧
    ∀ R' : Cell → Value → Prop, (∀ c x, isRef c = true → R c x → R' c x) → (∀ (j : Nat) z els v, (cellsA args)[j]? = some (.own z els) → V[j]? = some v → R' (.sl (d, k + j) [] z 0 els.length) v) → TReps R' w (refsA d k args) vs []
  | [], _, _, k, _, .nil => ⟨[], .nil, fun _ _ _ => .nil⟩
  | .a l :: t, _, _, k, hr, @TReps.cons _ _ _ v F _ vs' G hx ht => by
    obtain ⟨vs, rfl, hl⟩ := trep_a hx
    obtain ⟨V, h1, h2⟩ := refsA_rep (d := d) (k := k + l.length) (by simpa [rootable] using hr) ht
    have hll := hl.length
    refine ⟨vs ++ V, hl.append h1, fun R' hR hO => ?_⟩
    simp only [refsA]
    have e1 := refsD_rep (d := d) (k := k) hl hR (fun j z els v hj hv => by
      have hlt := (List.getElem?_eq_some_iff.1 hj).1
      exact hO j z els v (by simp only [cellsA]; rw [List.getElem?_append_left hlt]; exact hj) (by rw [List.getElem?_append_left (by omega)]; exact hv))
    have e2 := h2 R' hR (fun j z els v hj hv => by
      have := hO (l.length + j) z els v (by simp only [cellsA]; rw [List.getElem?_append_right (by omega)]; simpa using hj) (by rw [List.getElem?_append_right (by omega), hll]; simpa using hv)
      rwa [show k + l.length + j = k + (l.length + j) by omega])
    exact TReps.cons (F := []) (.a e1) e2
  | .c c :: t, _, _, k, hr, @TReps.cons _ _ _ v F _ vs' G hx ht => by
    cases hx with
    | c hx =>
      obtain ⟨V, h1, h2⟩ := refsA_rep (d := d) (k := k + 1) (by simpa [rootable] using hr) ht
      have h0 : VRep R w [c] [v] F := by simpa using VRep.cons hx .nil
      refine ⟨v :: V, .cons hx h1, fun R' hR hO => ?_⟩
      have e1 := refsD_rep (d := d) (k := k) h0 hR (fun j z els u hj hv => by
        cases j with
        | zero => simp at hj hv; subst hj hv; exact hO 0 z els _ rfl rfl
        | succ j => simp at hj)
      have e2 := h2 R' hR (fun j z els u hj hv => by
        have := hO (j + 1) z els u (by simpa [cellsA] using hj) (by simpa using hv)
        rwa [show k + 1 + j = k + (j + 1) by omega])
      have key : ∀ c', refsD d k [c] = [c'] → TReps R' w (.c c' :: refsA d (k + 1) t) (v :: vs') [] := fun c' hc' => by
        rw [hc'] at e1
        obtain ⟨v', F1, k1, k2, k3⟩ := e1.nth (j := 0) rfl
        simp at k1 k3; subst k1; subst k3
        exact TReps.cons (F := []) (.c k2) e2
      cases c <;> exact key _ rfl
  | .t l :: t, _, _, k, hr, h => by simp [rootable] at hr
  | .u :: t, _, _, k, hr, h => by simp [rootable] at hr
theorem look_append {r : Nm} : ∀ {H1 H2 : HH}, look (H1 ++ H2) r = match look H1 r with | some c => some c | none => look H2 r
  | [], H2 => rfl
  | (s, c) :: t, H2 => by
    by_cases e : s = r
    · simp [look, e]
    · simp only [List.cons_append, look, e, if_false]; exact look_append
theorem look_rootsD_ne {d : Nat} {r : Nm} (hr : r.1 ≠ d) : ∀ {l : List Cell} {k : Nat}, look (rootsD d k l) r = none
  | [], k => rfl
  | c :: t, k => by
    have ih := look_rootsD_ne hr (l := t) (k := k + 1)
    cases c with
    | own z els => simp only [rootsD, look]; rw [if_neg (fun e => hr (by rw [← e])), ih]
    | _ => simpa [rootsD] using ih
theorem look_rootsD {d : Nat} : ∀ {l : List Cell} {k j : Nat} {z els}, l[j]? = some (.own z els) → look (rootsD d k l) (d, k + j) = some (.own z els)
  | [], k, j, z, els, h => by simp at h
  | c :: t, k, 0, z, els, h => by simp at h; subst h; simp [rootsD, look]
  | c :: t, k, j + 1, z, els, h => by
    have ih := look_rootsD (d := d) (l := t) (k := k + 1) (j := j) (by simpa using h)
    rw [show k + 1 + j = k + (j + 1) by omega] at ih
    cases c with
    | own z' els' =>
      simp only [rootsD, look]
      rw [if_neg (fun e => by have := (Prod.mk.injEq _ _ _ _ ▸ e : d = d ∧ k = k + (j + 1)).2; omega)]
      exact ih
    | _ => simpa [rootsD] using ih
theorem vp1_out {w : World} {β β' : Nm → Value} {H H' : HH} {d : Nat} (hβ : ∀ r, r.1 ≠ d → β' r = β r) (hl : ∀ r, r.1 ≠ d → look H' r = look H r) : ∀ c x, ¬ atD1 d c → VP1 w β H c x → VP1 w β' H' c x := by
  intro c x hn h
  cases c with
  | sl r q z i n => obtain ⟨c, els, hd, e1, e2, e3, e4⟩ := h; exact ⟨c, els, hd, (hl r hn).trans e1, e2, by rw [hβ r hn]; exact e3, e4⟩
  | pt r q z i f => obtain ⟨c, els, hd, e1, e2, e3, e4⟩ := h; exact ⟨c, els, hd, (hl r hn).trans e1, e2, by rw [hβ r hn]; exact e3, e4⟩
  | v y => exact h
  | own z els => exact h.elim
  | fn f cs => exact h.elim
  | x => exact h.elim
theorem vp_named {R : Cell → Value → Prop} {w : World} {β : Nm → Value} {H : HH} {nm : Nm} {z : Nat} {els : List (List Cell)} {v : Value} {F : List Nat} (h : Rep R w (.own z els) v F) (hl : look H nm = some (.own z els)) (hβ : β nm = v) : VP w β H (.sl nm [] z 0 els.length) v := by
  refine ⟨.own z els, els, v, hl, rfl, by simp [hdr, hβ], by simp, ?_⟩
  cases h with
  | ref hi => simp [isRef] at hi
  | nil z A => exact .inr ⟨rfl, A, rfl⟩
  | @own _ b off cap _ arr el fr F hz hb hfr hr hl hs hreps => exact .inl ⟨b, off, _, cap, cap, rfl, by simp, hl, by omega⟩
/-- A contract over references serves for what is owned in hand. -/
theorem PFun.root {P : Program} {f : FuncId} {args : List T} {H : HH} {x : T} (hr : rootable args = true) (hx : ∀ d, x.clean (atD d))
    (h : ∀ d, d ≠ 0 → (∀ n, look H (d, n) = none) → PFun P f (refsA d 0 args) (rootsD d 0 (cellsA args) ++ H) x) : PFun P f args H x := by
  intro g w β F FA vs hgl hh ht hn hlow
  obtain ⟨d, hd0, hfr⟩ := exists_fresh H
  have hfr' : ∀ n, look H (d, n) = none := fun n => by
    cases hl : look H (d, n) with
    | none => rfl
    | some c => exact absurd rfl (hfr _ (look_mem hl))
  obtain ⟨V, hV, hmk⟩ := refsA_rep (d := d) (k := 0) hr ht
  let β' : Nm → Value := fun r => if r.1 = d then V.getD r.2 undef else β r
  have hβd : ∀ (j : Nat) v, V[j]? = some v → β' (d, 0 + j) = v := fun j v hj => by
    show (if (d, 0 + j).1 = d then V.getD (0 + j) undef else _) = v
    rw [if_pos rfl, Nat.zero_add, List.getD_eq_getElem?_getD, hj]; rfl
  have hβ : ∀ r : Nm, r.1 ≠ d → β' r = β r := fun r hr => by show (if r.1 = d then _ else _) = _; rw [if_neg hr]
  have hlk : ∀ r : Nm, r.1 ≠ d → look (rootsD d 0 (cellsA args) ++ H) r = look H r := fun r hr => by rw [look_append, look_rootsD_ne hr]
  have hvp : ∀ c x, isRef c = true → VP w β H c x → VP w β' (rootsD d 0 (cellsA args) ++ H) c x := fun c x hc hv => vp_out hβ hlk c x hc (vp_fresh hfr c x hc hv) hv
  have hO : ∀ (j : Nat) z els v, (cellsA args)[j]? = some (.own z els) → V[j]? = some v → VP w β' (rootsD d 0 (cellsA args) ++ H) (.sl (d, 0 + j) [] z 0 els.length) v := fun j z els v hj hv => by
    obtain ⟨v', F1, k1, k2, k3⟩ := hV.nth hj
    rw [hv] at k1; cases k1
    exact vp_named k2 (by rw [look_append, look_rootsD hj]) (hβd j v hv)
  have hV' : VRep (VP w β' (rootsD d 0 (cellsA args) ++ H)) w (cellsA args) V FA := hV.mono (K := fun _ => False) (fun c _ => clean_false c) (fun c x hc _ hv => hvp c x hc hv) (fun _ _ => rfl)
  have hHo : Holds g (VP w β' (rootsD d 0 (cellsA args) ++ H)) w β' H F := hh.mono (K := fun _ => False) (fun en he => hβ en.1 (hfr en he)) (fun en _ => clean_false en.2) (fun c x hc _ hv => hvp c x hc hv) (fun _ _ => rfl) (fun _ _ => rfl)
  have hHold : Holds g (VP w β' (rootsD d 0 (cellsA args) ++ H)) w β' (rootsD d 0 (cellsA args) ++ H) (FA ++ F) := (rootsD_holds hd0 hV' hβd).append hHo
  have hargs := hmk _ hvp hO
  refine (h d hd0 hfr' g w β' (FA ++ F) [] vs hgl hHold hargs ?_ ?_).mono fun en w' hres => ?_
  · rw [List.append_nil]; exact (List.perm_append_comm.nodup_iff).1 hn
  · intro b hb
    rw [List.append_nil] at hb
    exact hlow b (List.perm_append_comm.subset hb)
  · obtain ⟨y, T1, H', lg, F', FT, rfl, ⟨rfl, rfl, rfl⟩, k1, k2, k3, k4, k5⟩ := hres
    obtain ⟨F1, F2, rfl, m1, m2⟩ := k1.split
    have hlk2 : ∀ r : Nm, r.1 ≠ d → look H r = look (rootsD d 0 (cellsA args) ++ H) r := fun r hr => (hlk r hr).symm
    have hβ2 : ∀ r : Nm, r.1 ≠ d → β r = β' r := fun r hr => (hβ r hr).symm
    have hback := vp_out (w := w') hβ2 hlk2
    have m3 : Holds g (VP w' β H) w' β H F2 := m2.mono (K := atD d) (fun en he => hβ2 en.1 (hfr en he)) (hh.cleans (vp_fresh hfr)) (fun c x hc hk hv => hback c x hc hk hv) (fun _ _ => rfl) (fun _ _ => rfl)
    have m4 : TRep (VP w' β H) w' T1 y FT := k2.mono (hx d) (fun c x hc hk hv => hback c x hc hk hv) (fun _ _ => rfl)
    refine ⟨y, T1, H, [], F2, FT, rfl, ⟨rfl, rfl, rfl⟩, m3, m4, ?_, ?_, fun c x hc hv => ?_⟩
    · exact List.Nodup.sublist (List.Sublist.append (List.sublist_append_right F1 F2) (.refl _)) k3
    · have := k4.sub (B' := F2 ++ FT) (fun b hb => by
        rcases List.mem_append.1 hb with hb | hb
        · simp [hb]
        · simp [hb])
      exact { this with same := fun b hb hnb => this.same b hb (fun hm => hnb (by rw [List.append_nil] at hm; exact List.perm_append_comm.subset hm)), new := fun b hb => (this.new b hb).imp (fun hm => by rw [List.append_nil] at hm; exact List.perm_append_comm.subset hm) id }
    · have hnD := out_notD hv hfr
      have h1 := vp1_out hβ hlk c x hnD hv
      exact vp1_out hβ2 hlk2 c x hnD (k5 c x hc h1)
theorem CleanRows_mk {K : Cell → Prop} {k : Int} {rows : List (List Cell)} (h : CleanRows K rows) : CleanRows K (mkRs k rows) ↔ True := iff_true_intro (mkRs_clean h)
attribute [simp] CleanRows_mk refsA refsD rootsD cellsA rootable
end Go.Px

namespace Go.Proofs.Ythejobdlfomcjaa
open Go Go.Px Go.RowKit Go.Proofs
set_option linter.unnecessarySimpa false
set_option linter.unusedVariables false
set_option linter.unusedSimpArgs false
set_option maxRecDepth 100000
attribute [-simp] Int.not_le Int.not_lt
/-- ahead of a loop: a temporary that owns gets a name -/
theorem _root_.Go.Px.LoopK.bind {cx kv c t H lg K i z els} (hi : getT t i = some (.c (.own z els))) (hl : Px.look H (cx.d, i) = none) (h : LoopK cx kv c ⟨setT t i (.c (.sl (cx.d, i) [] z 0 els.length)), ((cx.d, i), .own z els) :: H, lg⟩ K) : LoopK cx kv c ⟨t, H, lg⟩ K :=
  SCode.ghost (fun e a w hd hr => by rw [← hd] at hl ⊢; exact Rel.bind hr hi hl) h
set_option maxHeartbeats 2000000 in
theorem impl_CopiesFault (H : HH) {r1 q1 r2 q2 r3 q3} {x : DCopies} (hl : x.le 1048576) (a1 : arrAt H r1 q1 = some (2, x.now.map DCell.enc)) (a2 : arrAt H r2 q2 = some (1, x.last.map encI)) (a3 : arrAt H r3 q3 = some (6, x.txns.map DCopied.enc)) :
    PFun Try.prog 17 [.a [.v (.int .i64 x.next), .v (.int .i64 x.clock), .sl r1 q1 2 0 x.now.length, .sl r2 q2 1 0 x.last.length, .sl r3 q3 6 0 x.txns.length]] H (I (copF x)) := by
  obtain ⟨b1, b2, b3, b3p⟩ := hl
  refine PFun.of [1, 2, 3, 4, 5, 7, 8, 9, 20, 25, 30, 39, 42, 43, 44, 45, 49, 71, 107, 108, 109, 110, 116, 119, 123] Try.func17 rfl (by simp [Try.f17]) ?_
  intro d hd0 hfr hcl hout
  have hcd : ∀ n q, CleanH (hit [((d, n), q)]) H := fun n q => hcl.at
  have a1_n : ∀ n, ¬ (d, n) = r1 := fun n => nm_ne (ne_of_arr hfr a1)
  have a1_d : ¬ r1.1 = d := ne_of_arr hfr a1
  have a1_m : ∀ n, ¬ r1 = (d, n) := fun n => nm_ne' (ne_of_arr hfr a1)
  have a2_n : ∀ n, ¬ (d, n) = r2 := fun n => nm_ne (ne_of_arr hfr a2)
  have a2_d : ¬ r2.1 = d := ne_of_arr hfr a2
  have a2_m : ∀ n, ¬ r2 = (d, n) := fun n => nm_ne' (ne_of_arr hfr a2)
  have a3_n : ∀ n, ¬ (d, n) = r3 := fun n => nm_ne (ne_of_arr hfr a3)
  have a3_d : ¬ r3.1 = d := ne_of_arr hfr a3
  have a3_m : ∀ n, ¬ r3 = (d, n) := fun n => nm_ne' (ne_of_arr hfr a3)
  simp (maxSteps := 4000000) [hd0, hfr, hout, hcl, hcd, delA_none, a1, a1_n, a1_d, a1_m, a2, a2_n, a2_d, a2_m, a3, a3_n, a3_d, a3_m, Try.f17]
  refine (impl_isTxn _ _).useCK ?_
  by_cases c1 : inR x.next 1 999 = true
  case neg => simp only [Bool.not_eq_true] at c1; simp (maxSteps := 4000000) [hd0, hfr, hout, hcl, hcd, delA_none, a1, a1_n, a1_d, a1_m, a2, a2_n, a2_d, a2_m, a3, a3_n, a3_d, a3_m, c1, copF]
  rw [c1]
  simp (maxSteps := 4000000) [hd0, hfr, hout, hcl, hcd, delA_none, a1, a1_n, a1_d, a1_m, a2, a2_n, a2_d, a2_m, a3, a3_n, a3_d, a3_m]
  refine (impl_isLsn _ _).useCK ?_
  by_cases c2 : inR x.clock 0 1000000 = true
  case neg => simp only [Bool.not_eq_true] at c2; simp (maxSteps := 4000000) [hd0, hfr, hout, hcl, hcd, delA_none, a1, a1_n, a1_d, a1_m, a2, a2_n, a2_d, a2_m, a3, a3_n, a3_d, a3_m, c1, c2, copF]
  rw [c2]
  by_cases g1 : 20 < x.txns.length
  case pos => simp (maxSteps := 4000000) [hd0, hfr, hout, hcl, hcd, delA_none, a1, a1_n, a1_d, a1_m, a2, a2_n, a2_d, a2_m, a3, a3_n, a3_d, a3_m, show 20 < (x.txns.length : Int) by omega, c1, c2, g1, copF]
  simp (maxSteps := 4000000) [hd0, hfr, hout, hcl, hcd, delA_none, a1, a1_n, a1_d, a1_m, a2, a2_n, a2_d, a2_m, a3, a3_n, a3_d, a3_m, show ¬ 20 < (x.txns.length : Int) by omega]
  by_cases g2 : x.last.length = 32
  case neg => simp (maxSteps := 4000000) [hd0, hfr, hout, hcl, hcd, delA_none, a1, a1_n, a1_d, a1_m, a2, a2_n, a2_d, a2_m, a3, a3_n, a3_d, a3_m, show ¬ (x.last.length : Int) = 32 by omega, c1, c2, g1, g2, copF]
  have hcc : (!inR x.next 1 999 || !inR x.clock 0 1000000) = false := by simp [c1, c2]
  have hC : ∀ H', arrAt H' (d, 1) [] = some (5, [[.v (.int .i64 x.next), .v (.int .i64 x.clock), .sl r1 q1 2 0 x.now.length, .sl r2 q2 1 0 x.last.length, .sl r3 q3 6 0 x.txns.length]]) → arrAt H' r2 q2 = some (1, x.last.map encI) → PFun Try.prog 86 [.c (.sl r2 q2 1 0 x.last.length), .c (.fn 87 [.pt (d, 1) [] 5 0 0])] H' (B (x.last.any fun n => !inR n 0 x.clock)) := fun H' hb1 hb3 =>
    slices_ContainsFunc_int64 H' (P := fun n => !inR n 0 x.clock) b2 hb3 (by simp [isRef]) (by kernel_rfl) (fun v => impl_CopiesFault_1 H' hb1)
  rw [g2] at hC
  simp (maxSteps := 4000000) [hd0, hfr, hout, hcl, hcd, delA_none, a1, a1_n, a1_d, a1_m, a2, a2_n, a2_d, a2_m, a3, a3_n, a3_d, a3_m, g2, capR]
  refine (hC _ (by simp (maxSteps := 4000000) [hd0, hfr, hout, hcl, hcd, delA_none, a1, a1_n, a1_d, a1_m, a2, a2_n, a2_d, a2_m, a3, a3_n, a3_d, a3_m]) (by simp (maxSteps := 4000000) [hd0, hfr, hout, hcl, hcd, delA_none, a1, a1_n, a1_d, a1_m, a2, a2_n, a2_d, a2_m, a3, a3_n, a3_d, a3_m])).useCK ?_
  by_cases hP : (x.last.any fun n => !inR n 0 x.clock) = true
  case pos =>
    have hF : copF x = 3 := by unfold copF; rw [hcc, if_neg (by simp), if_neg g1, if_neg (by simp [g2]), if_pos hP]
    rw [hP, hF]
    simp (maxSteps := 4000000) [hd0, hfr, hout, hcl, hcd, delA_none, a1, a1_n, a1_d, a1_m, a2, a2_n, a2_d, a2_m, a3, a3_n, a3_d, a3_m]
  simp only [Bool.not_eq_true] at hP
  rw [hP]
  have hF : copF x = if cellsF none x.now ≠ 0 then cellsF none x.now else txF x.next x.clock none x.txns := by
    conv => lhs; unfold copF
    rw [hcc, if_neg (by simp), if_neg g1, if_neg (by simp [g2]), if_neg (by simp [hP])]
  rw [hF]
  clear hF hC
  simp (maxSteps := 4000000) [hd0, hfr, hout, hcl, hcd, delA_none, a1, a1_n, a1_d, a1_m, a2, a2_n, a2_d, a2_m, a3, a3_n, a3_d, a3_m]
  refine (impl_cellsFault _ b1 (by simp (maxSteps := 4000000) [hd0, hfr, hout, hcl, hcd, delA_none, a1, a1_n, a1_d, a1_m, a2, a2_n, a2_d, a2_m, a3, a3_n, a3_d, a3_m])).useCK ?_
  by_cases k1 : cellsF none x.now = 0
  case neg => simp (maxSteps := 4000000) [hd0, hfr, hout, hcl, hcd, delA_none, a1, a1_n, a1_d, a1_m, a2, a2_n, a2_d, a2_m, a3, a3_n, a3_d, a3_m, k1]
  simp (maxSteps := 4000000) [hd0, hfr, hout, hcl, hcd, delA_none, a1, a1_n, a1_d, a1_m, a2, a2_n, a2_d, a2_m, a3, a3_n, a3_d, a3_m, k1]
  have hn : 1 ≤ x.next ∧ x.next ≤ 999 := by simpa [inR] using c1
  have wn : IntKind.i64.wrap (x.next - 1) = x.next - 1 := w64 (by omega) (by omega)
  refine LoopK.intro (fun m s => ∃ i : Nat, i + m = x.txns.length ∧ txF x.next x.clock (prv DCopied.id_ x.txns i) (x.txns.drop i) = txF x.next x.clock none x.txns ∧ s = ⟨[(1, .c (.pt (d, 1) [] 5 0 0)), (42, .c (.sl r3 q3 6 0 x.txns.length)), (43, I x.txns.length), (44, I i)],
      ((d, 1), .own 5 [[.v (.int .i64 x.next), .v (.int .i64 x.clock), .sl r1 q1 2 0 x.now.length, .sl r2 q2 1 0 32, .sl r3 q3 6 0 x.txns.length]]) :: H, []⟩) (x.txns.length + 1)
    (LK.intro x.txns.length [1, 42, 43, 44] [] (by omega) (by decide) (by simp (maxSteps := 4000000) [hd0, hfr, hout, hcl, hcd, delA_none, a1, a1_n, a1_d, a1_m, a2, a2_n, a2_d, a2_m, a3, a3_n, a3_d, a3_m]) ⟨0, by simp [prv]⟩) ?_
  rintro m s ⟨i, him, hinv, rfl⟩
  by_cases hi' : i < x.txns.length
  case neg =>
    rw [List.drop_eq_nil_of_le (by omega)] at hinv
    simp only [txF] at hinv
    simp (maxSteps := 4000000) [hd0, hfr, hout, hcl, hcd, delA_none, a1, a1_n, a1_d, a1_m, a2, a2_n, a2_d, a2_m, a3, a3_n, a3_d, a3_m, show ¬ (i : Int) < x.txns.length by omega, ← hinv]
  rw [List.drop_eq_getElem_cons hi'] at hinv
  simp only [txF] at hinv
  have w1 : IntKind.i64.wrap ((i : Int) + 1) = i + 1 := w64 (by omega) (by omega)
  have hend := prv_succ (f := DCopied.id_) hi'
  have s1 := arrAt_sub a3 (i := i) (f := 3) (row := x.txns[i].enc) (by simp [hi']) rfl
  have s2 := arrAt_sub a3 (i := i) (f := 4) (row := x.txns[i].enc) (by simp [hi']) rfl
  have s3 := arrAt_sub a3 (i := i) (f := 5) (row := x.txns[i].enc) (by simp [hi']) rfl
  obtain ⟨l1, l2, l3⟩ := b3p _ (List.getElem_mem hi')
  have ws1 : IntKind.i64.wrap ((x.txns[i].start.length : Int) + x.txns[i].now.length) = x.txns[i].start.length + x.txns[i].now.length := w64 (by omega) (by omega)
  have ws2 : IntKind.i64.wrap ((x.txns[i].start.length : Int) + x.txns[i].now.length + x.txns[i].wrote.length) = x.txns[i].start.length + x.txns[i].now.length + x.txns[i].wrote.length := w64 (by omega) (by omega)
  have hend3 : tF x.next x.clock (prv DCopied.id_ x.txns i) x.txns[i] ≠ 0 → txF x.next x.clock none x.txns = tF x.next x.clock (prv DCopied.id_ x.txns i) x.txns[i] := fun h => by rw [← hinv, if_pos h]
  simp (maxSteps := 4000000) [hd0, hfr, hout, hcl, hcd, delA_none, a1, a1_n, a1_d, a1_m, a2, a2_n, a2_d, a2_m, a3, a3_n, a3_d, a3_m, show (i : Int) < x.txns.length by omega, hi', DCopied.enc, wn]
  refine (impl_within _ _ _ _).useCK ?_
  by_cases d1 : inR x.txns[i].id_ 1 (x.next - 1) = true
  case neg =>
    simp only [Bool.not_eq_true] at d1
    have hT : tF x.next x.clock (prv DCopied.id_ x.txns i) x.txns[i] = 3 := by unfold tF; simp [d1]
    rw [hend3 (by rw [hT]; decide), hT]
    simp (maxSteps := 4000000) [hd0, hfr, hout, hcl, hcd, delA_none, a1, a1_n, a1_d, a1_m, a2, a2_n, a2_d, a2_m, a3, a3_n, a3_d, a3_m, d1]
  rw [d1]
  simp (maxSteps := 4000000) [hd0, hfr, hout, hcl, hcd, delA_none, a1, a1_n, a1_d, a1_m, a2, a2_n, a2_d, a2_m, a3, a3_n, a3_d, a3_m]
  refine (impl_within _ _ _ _).useCK ?_
  by_cases d2 : inR x.txns[i].at_ 0 x.clock = true
  case neg =>
    simp only [Bool.not_eq_true] at d2
    have hT : tF x.next x.clock (prv DCopied.id_ x.txns i) x.txns[i] = 3 := by unfold tF; simp [d2]
    rw [hend3 (by rw [hT]; decide), hT]
    simp (maxSteps := 4000000) [hd0, hfr, hout, hcl, hcd, delA_none, a1, a1_n, a1_d, a1_m, a2, a2_n, a2_d, a2_m, a3, a3_n, a3_d, a3_m, d2]
  rw [d2]
  simp (maxSteps := 4000000) [hd0, hfr, hout, hcl, hcd, delA_none, a1, a1_n, a1_d, a1_m, a2, a2_n, a2_d, a2_m, a3, a3_n, a3_d, a3_m]
  refine (impl_within _ _ _ _).useCK ?_
  by_cases d3 : inR x.txns[i].state 1 3 = true
  case neg =>
    simp only [Bool.not_eq_true] at d3
    have hT : tF x.next x.clock (prv DCopied.id_ x.txns i) x.txns[i] = 3 := by unfold tF; simp [d3]
    rw [hend3 (by rw [hT]; decide), hT]
    simp (maxSteps := 4000000) [hd0, hfr, hout, hcl, hcd, delA_none, a1, a1_n, a1_d, a1_m, a2, a2_n, a2_d, a2_m, a3, a3_n, a3_d, a3_m, d3]
  rw [d3]
  simp (maxSteps := 4000000) [hd0, hfr, hout, hcl, hcd, delA_none, a1, a1_n, a1_d, a1_m, a2, a2_n, a2_d, a2_m, a3, a3_n, a3_d, a3_m]
  refine DrawK.intro 15 [1, 5, 42, 43, 44, 71] rfl (by kernel_rfl) (by decide) ?_
  by_cases hc : nab (prv DCopied.id_ x.txns i) x.txns[i].id_ = true ∨ (x.txns[i].state ≠ 1 ∧ 0 < x.txns[i].start.length + x.txns[i].now.length + x.txns[i].wrote.length)
  case pos =>
    have hT : tF x.next x.clock (prv DCopied.id_ x.txns i) x.txns[i] = 1 := by
      unfold tF
      rw [if_neg (by simp [d1, d2, d3]), if_pos hc]
    rw [hend3 (by rw [hT]; decide), hT]
    by_cases h0 : i = 0
    · have hc' := hc.resolve_left (by simp [h0, prv, nab])
      simp (maxSteps := 4000000) [hd0, hfr, hout, hcl, hcd, delA_none, a1, a1_n, a1_d, a1_m, a2, a2_n, a2_d, a2_m, a3, a3_n, a3_d, a3_m, show ¬ (0 : Int) < (i : Int) by omega, show ¬ 0 < i by omega, hc'.1, ws1, ws2, show (0 : Int) < (x.txns[i].start.length : Int) + x.txns[i].now.length + x.txns[i].wrote.length by omega]
    · have h3 : i - 1 < x.txns.length := by omega
      have w2 : IntKind.i64.wrap ((i : Int) - 1) = (i - 1 : Nat) := by rw [w64 (by omega) (by omega)]; omega
      rw [prv_pos h0 h3] at hc
      by_cases h4 : x.txns[i].id_ ≤ x.txns[i-1].id_
      · simp (maxSteps := 4000000) [hd0, hfr, hout, hcl, hcd, delA_none, a1, a1_n, a1_d, a1_m, a2, a2_n, a2_d, a2_m, a3, a3_n, a3_d, a3_m, show (0 : Int) < (i : Int) by omega, show 0 < i by omega, w2, h3, DCopied.enc, h4]
      · have hc' := hc.resolve_left (by simp [nab, h4])
        simp (maxSteps := 4000000) [hd0, hfr, hout, hcl, hcd, delA_none, a1, a1_n, a1_d, a1_m, a2, a2_n, a2_d, a2_m, a3, a3_n, a3_d, a3_m, show (0 : Int) < (i : Int) by omega, show 0 < i by omega, w2, h3, DCopied.enc, h4, hc'.1, ws1, ws2, show (0 : Int) < (x.txns[i].start.length : Int) + x.txns[i].now.length + x.txns[i].wrote.length by omega]
  have hTt : tF x.next x.clock (prv DCopied.id_ x.txns i) x.txns[i] = if cellsF none x.txns[i].start ≠ 0 then cellsF none x.txns[i].start else if cellsF none x.txns[i].now ≠ 0 then cellsF none x.txns[i].now else wrF x.txns[i].wrote := by
    conv => lhs; unfold tF
    rw [if_neg (by simp [d1, d2, d3]), if_neg hc]
  have hlen : x.txns[i].state ≠ 1 → ¬ (0 : Int) < (x.txns[i].start.length : Int) + x.txns[i].now.length + x.txns[i].wrote.length := fun hs h => hc (.inr ⟨hs, by omega⟩)
  have hpv : i ≠ 0 → ∀ (h3 : i - 1 < x.txns.length), ¬ x.txns[i].id_ ≤ x.txns[i-1].id_ := fun h0 h3 h => hc (.inl (by rw [prv_pos h0 h3]; simp [nab, h]))
  clear hc
  by_cases h0 : i = 0
  · by_cases st : x.txns[i].state = 1
    · simp (maxSteps := 4000000) [hd0, hfr, hout, hcl, hcd, delA_none, a1, a1_n, a1_d, a1_m, a2, a2_n, a2_d, a2_m, a3, a3_n, a3_d, a3_m, show ¬ (0 : Int) < (i : Int) by omega, show ¬ 0 < i by omega, st]
      refine LoopK.bind (i := 107) rfl (by simp (maxSteps := 4000000) [hd0, hfr, hout, hcl, hcd, delA_none, a1, a1_n, a1_d, a1_m, a2, a2_n, a2_d, a2_m, a3, a3_n, a3_d, a3_m]) ?_
      simp (maxSteps := 4000000) [hd0, hfr, hout, hcl, hcd, delA_none, a1, a1_n, a1_d, a1_m, a2, a2_n, a2_d, a2_m, a3, a3_n, a3_d, a3_m]
      refine LoopK.intro (fun m s => ∃ k : Nat, k + m = 2 ∧ (1 ≤ k → cellsF none x.txns[i].start = 0) ∧ (2 ≤ k → cellsF none x.txns[i].now = 0) ∧ s = ⟨[(1, .c (.pt (d, 1) [] 5 0 0)), (5, .c (.pt (d, 5) [] 6 0 0)), (42, .c (.sl r3 q3 6 0 x.txns.length)), (43, I x.txns.length), (44, I i), (107, .c (.sl (d, 107) [] 1 0 2)), (108, I 2), (109, I k)],
          ((d, 107), .own 1 [[.sl r3 (q3 ++ [(i, 3)]) 2 0 x.txns[i].start.length], [.sl r3 (q3 ++ [(i, 4)]) 2 0 x.txns[i].now.length]]) :: ((d, 5), .own 6 [[.v (.int .i64 x.txns[i].id_), .v (.int .i64 x.txns[i].at_), .v (.int .i64 x.txns[i].state), .sl r3 (q3 ++ [(i, 3)]) 2 0 x.txns[i].start.length, .sl r3 (q3 ++ [(i, 4)]) 2 0 x.txns[i].now.length, .sl r3 (q3 ++ [(i, 5)]) 1 0 x.txns[i].wrote.length]]) :: ((d, 1), .own 5 [[.v (.int .i64 x.next), .v (.int .i64 x.clock), .sl r1 q1 2 0 x.now.length, .sl r2 q2 1 0 32, .sl r3 q3 6 0 x.txns.length]]) :: H, []⟩) (2 + 1)
        (LK.intro 2 [1, 5, 42, 43, 44, 107, 108, 109] [] (by omega) (by decide) (by simp (maxSteps := 4000000) [hd0, hfr, hout, hcl, hcd, delA_none, a1, a1_n, a1_d, a1_m, a2, a2_n, a2_d, a2_m, a3, a3_n, a3_d, a3_m]) ⟨0, by simp [st]⟩) ?_
      rintro m' s ⟨k, hk, z1, z2, rfl⟩
      have : k = 0 ∨ k = 1 ∨ k = 2 := by omega
      rcases this with rfl | rfl | rfl
      · simp (maxSteps := 4000000) [hd0, hfr, hout, hcl, hcd, delA_none, a1, a1_n, a1_d, a1_m, a2, a2_n, a2_d, a2_m, a3, a3_n, a3_d, a3_m]
        refine (impl_cellsFault _ l1 (by simp (maxSteps := 4000000) [hd0, hfr, hout, hcl, hcd, delA_none, a1, a1_n, a1_d, a1_m, a2, a2_n, a2_d, a2_m, a3, a3_n, a3_d, a3_m, s1])).useCK ?_
        by_cases k1 : cellsF none x.txns[i].start = 0
        case neg =>
          rw [hend3 (by rw [hTt, if_pos k1]; exact k1), hTt, if_pos k1]
          simp (maxSteps := 4000000) [hd0, hfr, hout, hcl, hcd, delA_none, a1, a1_n, a1_d, a1_m, a2, a2_n, a2_d, a2_m, a3, a3_n, a3_d, a3_m, k1]
        simp (maxSteps := 4000000) [hd0, hfr, hout, hcl, hcd, delA_none, a1, a1_n, a1_d, a1_m, a2, a2_n, a2_d, a2_m, a3, a3_n, a3_d, a3_m, k1]
        refine LK.intro (m' - 1) [1, 5, 42, 43, 44, 107, 108, 109] [] (by omega) (by decide) (by simp (maxSteps := 4000000) [hd0, hfr, hout, hcl, hcd, delA_none, a1, a1_n, a1_d, a1_m, a2, a2_n, a2_d, a2_m, a3, a3_n, a3_d, a3_m]) ⟨1, by omega, fun h => by omega, by simp [show IntKind.i64.wrap 1 = 1 by decide]⟩
      · have k1 := z1 (by omega)
        simp (maxSteps := 4000000) [hd0, hfr, hout, hcl, hcd, delA_none, a1, a1_n, a1_d, a1_m, a2, a2_n, a2_d, a2_m, a3, a3_n, a3_d, a3_m]
        refine (impl_cellsFault _ l2 (by simp (maxSteps := 4000000) [hd0, hfr, hout, hcl, hcd, delA_none, a1, a1_n, a1_d, a1_m, a2, a2_n, a2_d, a2_m, a3, a3_n, a3_d, a3_m, s2])).useCK ?_
        by_cases k2 : cellsF none x.txns[i].now = 0
        case neg =>
          rw [hend3 (by rw [hTt, if_neg (by simp [k1]), if_pos k2]; exact k2), hTt, if_neg (by simp [k1]), if_pos k2]
          simp (maxSteps := 4000000) [hd0, hfr, hout, hcl, hcd, delA_none, a1, a1_n, a1_d, a1_m, a2, a2_n, a2_d, a2_m, a3, a3_n, a3_d, a3_m, k2]
        simp (maxSteps := 4000000) [hd0, hfr, hout, hcl, hcd, delA_none, a1, a1_n, a1_d, a1_m, a2, a2_n, a2_d, a2_m, a3, a3_n, a3_d, a3_m, k2]
        refine LK.intro (m' - 1) [1, 5, 42, 43, 44, 107, 108, 109] [] (by omega) (by decide) (by simp (maxSteps := 4000000) [hd0, hfr, hout, hcl, hcd, delA_none, a1, a1_n, a1_d, a1_m, a2, a2_n, a2_d, a2_m, a3, a3_n, a3_d, a3_m]) ⟨2, by omega, fun _ => k1, by simp [show IntKind.i64.wrap 2 = 2 by decide]⟩
      · have k1 := z1 (by omega)
        have k2 := z2 (by omega)
        rw [if_neg (by simp [k1]), if_neg (by simp [k2])] at hTt
        simp (maxSteps := 4000000) [hd0, hfr, hout, hcl, hcd, delA_none, a1, a1_n, a1_d, a1_m, a2, a2_n, a2_d, a2_m, a3, a3_n, a3_d, a3_m]
        refine (slices_ContainsFunc_int64 _ (g := 90) (caps := []) (P := fun k => !inR k 0 31) l3 (by simp (maxSteps := 4000000) [hd0, hfr, hout, hcl, hcd, delA_none, a1, a1_n, a1_d, a1_m, a2, a2_n, a2_d, a2_m, a3, a3_n, a3_d, a3_m, s3]) (by simp) (by kernel_rfl) (fun v => impl_CopiesFault_2 _)).useCK ?_
        by_cases k3 : (x.txns[i].wrote.any fun k => !inR k 0 31) = true
        case pos =>
          have hW : wrF x.txns[i].wrote = 3 := by unfold wrF; rw [if_pos k3]
          rw [hend3 (by rw [hTt, hW]; decide), hTt, hW, k3]
          simp (maxSteps := 4000000) [hd0, hfr, hout, hcl, hcd, delA_none, a1, a1_n, a1_d, a1_m, a2, a2_n, a2_d, a2_m, a3, a3_n, a3_d, a3_m]
        simp only [Bool.not_eq_true] at k3
        rw [k3]
        simp (maxSteps := 4000000) [hd0, hfr, hout, hcl, hcd, delA_none, a1, a1_n, a1_d, a1_m, a2, a2_n, a2_d, a2_m, a3, a3_n, a3_d, a3_m]
        refine (impl_rise _ l3 (by simp (maxSteps := 4000000) [hd0, hfr, hout, hcl, hcd, delA_none, a1, a1_n, a1_d, a1_m, a2, a2_n, a2_d, a2_m, a3, a3_n, a3_d, a3_m, s3])).useCK ?_
        by_cases k4 : riseF none x.txns[i].wrote = true
        case neg =>
          simp only [Bool.not_eq_true] at k4
          have hW : wrF x.txns[i].wrote = 1 := by unfold wrF; rw [if_neg (by simp [k3]), if_pos k4]
          rw [hend3 (by rw [hTt, hW]; decide), hTt, hW, k4]
          simp (maxSteps := 4000000) [hd0, hfr, hout, hcl, hcd, delA_none, a1, a1_n, a1_d, a1_m, a2, a2_n, a2_d, a2_m, a3, a3_n, a3_d, a3_m]
        have hW : wrF x.txns[i].wrote = 0 := by unfold wrF; rw [if_neg (by simp [k3]), if_neg (by simp [k4])]
        rw [k4]
        rw [hTt, hW] at hinv
        simp only [ne_eq, not_true_eq_false, if_false] at hinv
        simp (maxSteps := 4000000) [hd0, hfr, hout, hcl, hcd, delA_none, a1, a1_n, a1_d, a1_m, a2, a2_n, a2_d, a2_m, a3, a3_n, a3_d, a3_m, w1]
        refine LK.intro (m - 1) [1, 42, 43, 44] [107, 5] (by omega) (by decide) (by simp (maxSteps := 4000000) [hd0, hfr, hout, hcl, hcd, delA_none, a1, a1_n, a1_d, a1_m, a2, a2_n, a2_d, a2_m, a3, a3_n, a3_d, a3_m]) ⟨i + 1, by omega, by rw [hend]; exact hinv, by simp⟩
    · simp (maxSteps := 4000000) [hd0, hfr, hout, hcl, hcd, delA_none, a1, a1_n, a1_d, a1_m, a2, a2_n, a2_d, a2_m, a3, a3_n, a3_d, a3_m, show ¬ (0 : Int) < (i : Int) by omega, show ¬ 0 < i by omega, st, ws1, ws2, hlen st]
      refine LoopK.bind (i := 107) rfl (by simp (maxSteps := 4000000) [hd0, hfr, hout, hcl, hcd, delA_none, a1, a1_n, a1_d, a1_m, a2, a2_n, a2_d, a2_m, a3, a3_n, a3_d, a3_m]) ?_
      simp (maxSteps := 4000000) [hd0, hfr, hout, hcl, hcd, delA_none, a1, a1_n, a1_d, a1_m, a2, a2_n, a2_d, a2_m, a3, a3_n, a3_d, a3_m]
      refine LoopK.intro (fun m s => ∃ k : Nat, k + m = 2 ∧ (1 ≤ k → cellsF none x.txns[i].start = 0) ∧ (2 ≤ k → cellsF none x.txns[i].now = 0) ∧ s = ⟨[(1, .c (.pt (d, 1) [] 5 0 0)), (5, .c (.pt (d, 5) [] 6 0 0)), (42, .c (.sl r3 q3 6 0 x.txns.length)), (43, I x.txns.length), (44, I i), (107, .c (.sl (d, 107) [] 1 0 2)), (108, I 2), (109, I k)],
          ((d, 107), .own 1 [[.sl r3 (q3 ++ [(i, 3)]) 2 0 x.txns[i].start.length], [.sl r3 (q3 ++ [(i, 4)]) 2 0 x.txns[i].now.length]]) :: ((d, 5), .own 6 [[.v (.int .i64 x.txns[i].id_), .v (.int .i64 x.txns[i].at_), .v (.int .i64 x.txns[i].state), .sl r3 (q3 ++ [(i, 3)]) 2 0 x.txns[i].start.length, .sl r3 (q3 ++ [(i, 4)]) 2 0 x.txns[i].now.length, .sl r3 (q3 ++ [(i, 5)]) 1 0 x.txns[i].wrote.length]]) :: ((d, 1), .own 5 [[.v (.int .i64 x.next), .v (.int .i64 x.clock), .sl r1 q1 2 0 x.now.length, .sl r2 q2 1 0 32, .sl r3 q3 6 0 x.txns.length]]) :: H, []⟩) (2 + 1)
        (LK.intro 2 [1, 5, 42, 43, 44, 107, 108, 109] [] (by omega) (by decide) (by simp (maxSteps := 4000000) [hd0, hfr, hout, hcl, hcd, delA_none, a1, a1_n, a1_d, a1_m, a2, a2_n, a2_d, a2_m, a3, a3_n, a3_d, a3_m]) ⟨0, by simp [st]⟩) ?_
      rintro m' s ⟨k, hk, z1, z2, rfl⟩
      have : k = 0 ∨ k = 1 ∨ k = 2 := by omega
      rcases this with rfl | rfl | rfl
      · simp (maxSteps := 4000000) [hd0, hfr, hout, hcl, hcd, delA_none, a1, a1_n, a1_d, a1_m, a2, a2_n, a2_d, a2_m, a3, a3_n, a3_d, a3_m]
        refine (impl_cellsFault _ l1 (by simp (maxSteps := 4000000) [hd0, hfr, hout, hcl, hcd, delA_none, a1, a1_n, a1_d, a1_m, a2, a2_n, a2_d, a2_m, a3, a3_n, a3_d, a3_m, s1])).useCK ?_
        by_cases k1 : cellsF none x.txns[i].start = 0
        case neg =>
          rw [hend3 (by rw [hTt, if_pos k1]; exact k1), hTt, if_pos k1]
          simp (maxSteps := 4000000) [hd0, hfr, hout, hcl, hcd, delA_none, a1, a1_n, a1_d, a1_m, a2, a2_n, a2_d, a2_m, a3, a3_n, a3_d, a3_m, k1]
        simp (maxSteps := 4000000) [hd0, hfr, hout, hcl, hcd, delA_none, a1, a1_n, a1_d, a1_m, a2, a2_n, a2_d, a2_m, a3, a3_n, a3_d, a3_m, k1]
        refine LK.intro (m' - 1) [1, 5, 42, 43, 44, 107, 108, 109] [] (by omega) (by decide) (by simp (maxSteps := 4000000) [hd0, hfr, hout, hcl, hcd, delA_none, a1, a1_n, a1_d, a1_m, a2, a2_n, a2_d, a2_m, a3, a3_n, a3_d, a3_m]) ⟨1, by omega, fun h => by omega, by simp [show IntKind.i64.wrap 1 = 1 by decide]⟩
      · have k1 := z1 (by omega)
        simp (maxSteps := 4000000) [hd0, hfr, hout, hcl, hcd, delA_none, a1, a1_n, a1_d, a1_m, a2, a2_n, a2_d, a2_m, a3, a3_n, a3_d, a3_m]
        refine (impl_cellsFault _ l2 (by simp (maxSteps := 4000000) [hd0, hfr, hout, hcl, hcd, delA_none, a1, a1_n, a1_d, a1_m, a2, a2_n, a2_d, a2_m, a3, a3_n, a3_d, a3_m, s2])).useCK ?_
        by_cases k2 : cellsF none x.txns[i].now = 0
        case neg =>
          rw [hend3 (by rw [hTt, if_neg (by simp [k1]), if_pos k2]; exact k2), hTt, if_neg (by simp [k1]), if_pos k2]
          simp (maxSteps := 4000000) [hd0, hfr, hout, hcl, hcd, delA_none, a1, a1_n, a1_d, a1_m, a2, a2_n, a2_d, a2_m, a3, a3_n, a3_d, a3_m, k2]
        simp (maxSteps := 4000000) [hd0, hfr, hout, hcl, hcd, delA_none, a1, a1_n, a1_d, a1_m, a2, a2_n, a2_d, a2_m, a3, a3_n, a3_d, a3_m, k2]
        refine LK.intro (m' - 1) [1, 5, 42, 43, 44, 107, 108, 109] [] (by omega) (by decide) (by simp (maxSteps := 4000000) [hd0, hfr, hout, hcl, hcd, delA_none, a1, a1_n, a1_d, a1_m, a2, a2_n, a2_d, a2_m, a3, a3_n, a3_d, a3_m]) ⟨2, by omega, fun _ => k1, by simp [show IntKind.i64.wrap 2 = 2 by decide]⟩
      · have k1 := z1 (by omega)
        have k2 := z2 (by omega)
        rw [if_neg (by simp [k1]), if_neg (by simp [k2])] at hTt
        simp (maxSteps := 4000000) [hd0, hfr, hout, hcl, hcd, delA_none, a1, a1_n, a1_d, a1_m, a2, a2_n, a2_d, a2_m, a3, a3_n, a3_d, a3_m]
        refine (slices_ContainsFunc_int64 _ (g := 90) (caps := []) (P := fun k => !inR k 0 31) l3 (by simp (maxSteps := 4000000) [hd0, hfr, hout, hcl, hcd, delA_none, a1, a1_n, a1_d, a1_m, a2, a2_n, a2_d, a2_m, a3, a3_n, a3_d, a3_m, s3]) (by simp) (by kernel_rfl) (fun v => impl_CopiesFault_2 _)).useCK ?_
        by_cases k3 : (x.txns[i].wrote.any fun k => !inR k 0 31) = true
        case pos =>
          have hW : wrF x.txns[i].wrote = 3 := by unfold wrF; rw [if_pos k3]
          rw [hend3 (by rw [hTt, hW]; decide), hTt, hW, k3]
          simp (maxSteps := 4000000) [hd0, hfr, hout, hcl, hcd, delA_none, a1, a1_n, a1_d, a1_m, a2, a2_n, a2_d, a2_m, a3, a3_n, a3_d, a3_m]
        simp only [Bool.not_eq_true] at k3
        rw [k3]
        simp (maxSteps := 4000000) [hd0, hfr, hout, hcl, hcd, delA_none, a1, a1_n, a1_d, a1_m, a2, a2_n, a2_d, a2_m, a3, a3_n, a3_d, a3_m]
        refine (impl_rise _ l3 (by simp (maxSteps := 4000000) [hd0, hfr, hout, hcl, hcd, delA_none, a1, a1_n, a1_d, a1_m, a2, a2_n, a2_d, a2_m, a3, a3_n, a3_d, a3_m, s3])).useCK ?_
        by_cases k4 : riseF none x.txns[i].wrote = true
        case neg =>
          simp only [Bool.not_eq_true] at k4
          have hW : wrF x.txns[i].wrote = 1 := by unfold wrF; rw [if_neg (by simp [k3]), if_pos k4]
          rw [hend3 (by rw [hTt, hW]; decide), hTt, hW, k4]
          simp (maxSteps := 4000000) [hd0, hfr, hout, hcl, hcd, delA_none, a1, a1_n, a1_d, a1_m, a2, a2_n, a2_d, a2_m, a3, a3_n, a3_d, a3_m]
        have hW : wrF x.txns[i].wrote = 0 := by unfold wrF; rw [if_neg (by simp [k3]), if_neg (by simp [k4])]
        rw [k4]
        rw [hTt, hW] at hinv
        simp only [ne_eq, not_true_eq_false, if_false] at hinv
        simp (maxSteps := 4000000) [hd0, hfr, hout, hcl, hcd, delA_none, a1, a1_n, a1_d, a1_m, a2, a2_n, a2_d, a2_m, a3, a3_n, a3_d, a3_m, w1]
        refine LK.intro (m - 1) [1, 42, 43, 44] [107, 5] (by omega) (by decide) (by simp (maxSteps := 4000000) [hd0, hfr, hout, hcl, hcd, delA_none, a1, a1_n, a1_d, a1_m, a2, a2_n, a2_d, a2_m, a3, a3_n, a3_d, a3_m]) ⟨i + 1, by omega, by rw [hend]; exact hinv, by simp⟩
  · have h3 : i - 1 < x.txns.length := by omega
    have w2 : IntKind.i64.wrap ((i : Int) - 1) = (i - 1 : Nat) := by rw [w64 (by omega) (by omega)]; omega
    have h4 := hpv h0 h3
    by_cases st : x.txns[i].state = 1
    · simp (maxSteps := 4000000) [hd0, hfr, hout, hcl, hcd, delA_none, a1, a1_n, a1_d, a1_m, a2, a2_n, a2_d, a2_m, a3, a3_n, a3_d, a3_m, show (0 : Int) < (i : Int) by omega, show 0 < i by omega, w2, h3, DCopied.enc, h4, st]
      refine LoopK.bind (i := 107) rfl (by simp (maxSteps := 4000000) [hd0, hfr, hout, hcl, hcd, delA_none, a1, a1_n, a1_d, a1_m, a2, a2_n, a2_d, a2_m, a3, a3_n, a3_d, a3_m]) ?_
      simp (maxSteps := 4000000) [hd0, hfr, hout, hcl, hcd, delA_none, a1, a1_n, a1_d, a1_m, a2, a2_n, a2_d, a2_m, a3, a3_n, a3_d, a3_m]
      refine LoopK.intro (fun m s => ∃ k : Nat, k + m = 2 ∧ (1 ≤ k → cellsF none x.txns[i].start = 0) ∧ (2 ≤ k → cellsF none x.txns[i].now = 0) ∧ s = ⟨[(1, .c (.pt (d, 1) [] 5 0 0)), (5, .c (.pt (d, 5) [] 6 0 0)), (42, .c (.sl r3 q3 6 0 x.txns.length)), (43, I x.txns.length), (44, I i), (107, .c (.sl (d, 107) [] 1 0 2)), (108, I 2), (109, I k)],
          ((d, 107), .own 1 [[.sl r3 (q3 ++ [(i, 3)]) 2 0 x.txns[i].start.length], [.sl r3 (q3 ++ [(i, 4)]) 2 0 x.txns[i].now.length]]) :: ((d, 5), .own 6 [[.v (.int .i64 x.txns[i].id_), .v (.int .i64 x.txns[i].at_), .v (.int .i64 x.txns[i].state), .sl r3 (q3 ++ [(i, 3)]) 2 0 x.txns[i].start.length, .sl r3 (q3 ++ [(i, 4)]) 2 0 x.txns[i].now.length, .sl r3 (q3 ++ [(i, 5)]) 1 0 x.txns[i].wrote.length]]) :: ((d, 1), .own 5 [[.v (.int .i64 x.next), .v (.int .i64 x.clock), .sl r1 q1 2 0 x.now.length, .sl r2 q2 1 0 32, .sl r3 q3 6 0 x.txns.length]]) :: H, []⟩) (2 + 1)
        (LK.intro 2 [1, 5, 42, 43, 44, 107, 108, 109] [] (by omega) (by decide) (by simp (maxSteps := 4000000) [hd0, hfr, hout, hcl, hcd, delA_none, a1, a1_n, a1_d, a1_m, a2, a2_n, a2_d, a2_m, a3, a3_n, a3_d, a3_m]) ⟨0, by simp [st]⟩) ?_
      rintro m' s ⟨k, hk, z1, z2, rfl⟩
      have : k = 0 ∨ k = 1 ∨ k = 2 := by omega
      rcases this with rfl | rfl | rfl
      · simp (maxSteps := 4000000) [hd0, hfr, hout, hcl, hcd, delA_none, a1, a1_n, a1_d, a1_m, a2, a2_n, a2_d, a2_m, a3, a3_n, a3_d, a3_m]
        refine (impl_cellsFault _ l1 (by simp (maxSteps := 4000000) [hd0, hfr, hout, hcl, hcd, delA_none, a1, a1_n, a1_d, a1_m, a2, a2_n, a2_d, a2_m, a3, a3_n, a3_d, a3_m, s1])).useCK ?_
        by_cases k1 : cellsF none x.txns[i].start = 0
        case neg =>
          rw [hend3 (by rw [hTt, if_pos k1]; exact k1), hTt, if_pos k1]
          simp (maxSteps := 4000000) [hd0, hfr, hout, hcl, hcd, delA_none, a1, a1_n, a1_d, a1_m, a2, a2_n, a2_d, a2_m, a3, a3_n, a3_d, a3_m, k1]
        simp (maxSteps := 4000000) [hd0, hfr, hout, hcl, hcd, delA_none, a1, a1_n, a1_d, a1_m, a2, a2_n, a2_d, a2_m, a3, a3_n, a3_d, a3_m, k1]
        refine LK.intro (m' - 1) [1, 5, 42, 43, 44, 107, 108, 109] [] (by omega) (by decide) (by simp (maxSteps := 4000000) [hd0, hfr, hout, hcl, hcd, delA_none, a1, a1_n, a1_d, a1_m, a2, a2_n, a2_d, a2_m, a3, a3_n, a3_d, a3_m]) ⟨1, by omega, fun h => by omega, by simp [show IntKind.i64.wrap 1 = 1 by decide]⟩
      · have k1 := z1 (by omega)
        simp (maxSteps := 4000000) [hd0, hfr, hout, hcl, hcd, delA_none, a1, a1_n, a1_d, a1_m, a2, a2_n, a2_d, a2_m, a3, a3_n, a3_d, a3_m]
        refine (impl_cellsFault _ l2 (by simp (maxSteps := 4000000) [hd0, hfr, hout, hcl, hcd, delA_none, a1, a1_n, a1_d, a1_m, a2, a2_n, a2_d, a2_m, a3, a3_n, a3_d, a3_m, s2])).useCK ?_
        by_cases k2 : cellsF none x.txns[i].now = 0
        case neg =>
          rw [hend3 (by rw [hTt, if_neg (by simp [k1]), if_pos k2]; exact k2), hTt, if_neg (by simp [k1]), if_pos k2]
          simp (maxSteps := 4000000) [hd0, hfr, hout, hcl, hcd, delA_none, a1, a1_n, a1_d, a1_m, a2, a2_n, a2_d, a2_m, a3, a3_n, a3_d, a3_m, k2]
        simp (maxSteps := 4000000) [hd0, hfr, hout, hcl, hcd, delA_none, a1, a1_n, a1_d, a1_m, a2, a2_n, a2_d, a2_m, a3, a3_n, a3_d, a3_m, k2]
        refine LK.intro (m' - 1) [1, 5, 42, 43, 44, 107, 108, 109] [] (by omega) (by decide) (by simp (maxSteps := 4000000) [hd0, hfr, hout, hcl, hcd, delA_none, a1, a1_n, a1_d, a1_m, a2, a2_n, a2_d, a2_m, a3, a3_n, a3_d, a3_m]) ⟨2, by omega, fun _ => k1, by simp [show IntKind.i64.wrap 2 = 2 by decide]⟩
      · have k1 := z1 (by omega)
        have k2 := z2 (by omega)
        rw [if_neg (by simp [k1]), if_neg (by simp [k2])] at hTt
        simp (maxSteps := 4000000) [hd0, hfr, hout, hcl, hcd, delA_none, a1, a1_n, a1_d, a1_m, a2, a2_n, a2_d, a2_m, a3, a3_n, a3_d, a3_m]
        refine (slices_ContainsFunc_int64 _ (g := 90) (caps := []) (P := fun k => !inR k 0 31) l3 (by simp (maxSteps := 4000000) [hd0, hfr, hout, hcl, hcd, delA_none, a1, a1_n, a1_d, a1_m, a2, a2_n, a2_d, a2_m, a3, a3_n, a3_d, a3_m, s3]) (by simp) (by kernel_rfl) (fun v => impl_CopiesFault_2 _)).useCK ?_
        by_cases k3 : (x.txns[i].wrote.any fun k => !inR k 0 31) = true
        case pos =>
          have hW : wrF x.txns[i].wrote = 3 := by unfold wrF; rw [if_pos k3]
          rw [hend3 (by rw [hTt, hW]; decide), hTt, hW, k3]
          simp (maxSteps := 4000000) [hd0, hfr, hout, hcl, hcd, delA_none, a1, a1_n, a1_d, a1_m, a2, a2_n, a2_d, a2_m, a3, a3_n, a3_d, a3_m]
        simp only [Bool.not_eq_true] at k3
        rw [k3]
        simp (maxSteps := 4000000) [hd0, hfr, hout, hcl, hcd, delA_none, a1, a1_n, a1_d, a1_m, a2, a2_n, a2_d, a2_m, a3, a3_n, a3_d, a3_m]
        refine (impl_rise _ l3 (by simp (maxSteps := 4000000) [hd0, hfr, hout, hcl, hcd, delA_none, a1, a1_n, a1_d, a1_m, a2, a2_n, a2_d, a2_m, a3, a3_n, a3_d, a3_m, s3])).useCK ?_
        by_cases k4 : riseF none x.txns[i].wrote = true
        case neg =>
          simp only [Bool.not_eq_true] at k4
          have hW : wrF x.txns[i].wrote = 1 := by unfold wrF; rw [if_neg (by simp [k3]), if_pos k4]
          rw [hend3 (by rw [hTt, hW]; decide), hTt, hW, k4]
          simp (maxSteps := 4000000) [hd0, hfr, hout, hcl, hcd, delA_none, a1, a1_n, a1_d, a1_m, a2, a2_n, a2_d, a2_m, a3, a3_n, a3_d, a3_m]
        have hW : wrF x.txns[i].wrote = 0 := by unfold wrF; rw [if_neg (by simp [k3]), if_neg (by simp [k4])]
        rw [k4]
        rw [hTt, hW] at hinv
        simp only [ne_eq, not_true_eq_false, if_false] at hinv
        simp (maxSteps := 4000000) [hd0, hfr, hout, hcl, hcd, delA_none, a1, a1_n, a1_d, a1_m, a2, a2_n, a2_d, a2_m, a3, a3_n, a3_d, a3_m, w1]
        refine LK.intro (m - 1) [1, 42, 43, 44] [107, 5] (by omega) (by decide) (by simp (maxSteps := 4000000) [hd0, hfr, hout, hcl, hcd, delA_none, a1, a1_n, a1_d, a1_m, a2, a2_n, a2_d, a2_m, a3, a3_n, a3_d, a3_m]) ⟨i + 1, by omega, by rw [hend]; exact hinv, by simp⟩
    · simp (maxSteps := 4000000) [hd0, hfr, hout, hcl, hcd, delA_none, a1, a1_n, a1_d, a1_m, a2, a2_n, a2_d, a2_m, a3, a3_n, a3_d, a3_m, show (0 : Int) < (i : Int) by omega, show 0 < i by omega, w2, h3, DCopied.enc, h4, st, ws1, ws2, hlen st]
      refine LoopK.bind (i := 107) rfl (by simp (maxSteps := 4000000) [hd0, hfr, hout, hcl, hcd, delA_none, a1, a1_n, a1_d, a1_m, a2, a2_n, a2_d, a2_m, a3, a3_n, a3_d, a3_m]) ?_
      simp (maxSteps := 4000000) [hd0, hfr, hout, hcl, hcd, delA_none, a1, a1_n, a1_d, a1_m, a2, a2_n, a2_d, a2_m, a3, a3_n, a3_d, a3_m]
      refine LoopK.intro (fun m s => ∃ k : Nat, k + m = 2 ∧ (1 ≤ k → cellsF none x.txns[i].start = 0) ∧ (2 ≤ k → cellsF none x.txns[i].now = 0) ∧ s = ⟨[(1, .c (.pt (d, 1) [] 5 0 0)), (5, .c (.pt (d, 5) [] 6 0 0)), (42, .c (.sl r3 q3 6 0 x.txns.length)), (43, I x.txns.length), (44, I i), (107, .c (.sl (d, 107) [] 1 0 2)), (108, I 2), (109, I k)],
          ((d, 107), .own 1 [[.sl r3 (q3 ++ [(i, 3)]) 2 0 x.txns[i].start.length], [.sl r3 (q3 ++ [(i, 4)]) 2 0 x.txns[i].now.length]]) :: ((d, 5), .own 6 [[.v (.int .i64 x.txns[i].id_), .v (.int .i64 x.txns[i].at_), .v (.int .i64 x.txns[i].state), .sl r3 (q3 ++ [(i, 3)]) 2 0 x.txns[i].start.length, .sl r3 (q3 ++ [(i, 4)]) 2 0 x.txns[i].now.length, .sl r3 (q3 ++ [(i, 5)]) 1 0 x.txns[i].wrote.length]]) :: ((d, 1), .own 5 [[.v (.int .i64 x.next), .v (.int .i64 x.clock), .sl r1 q1 2 0 x.now.length, .sl r2 q2 1 0 32, .sl r3 q3 6 0 x.txns.length]]) :: H, []⟩) (2 + 1)
        (LK.intro 2 [1, 5, 42, 43, 44, 107, 108, 109] [] (by omega) (by decide) (by simp (maxSteps := 4000000) [hd0, hfr, hout, hcl, hcd, delA_none, a1, a1_n, a1_d, a1_m, a2, a2_n, a2_d, a2_m, a3, a3_n, a3_d, a3_m]) ⟨0, by simp [st]⟩) ?_
      rintro m' s ⟨k, hk, z1, z2, rfl⟩
      have : k = 0 ∨ k = 1 ∨ k = 2 := by omega
      rcases this with rfl | rfl | rfl
      · simp (maxSteps := 4000000) [hd0, hfr, hout, hcl, hcd, delA_none, a1, a1_n, a1_d, a1_m, a2, a2_n, a2_d, a2_m, a3, a3_n, a3_d, a3_m]
        refine (impl_cellsFault _ l1 (by simp (maxSteps := 4000000) [hd0, hfr, hout, hcl, hcd, delA_none, a1, a1_n, a1_d, a1_m, a2, a2_n, a2_d, a2_m, a3, a3_n, a3_d, a3_m, s1])).useCK ?_
        by_cases k1 : cellsF none x.txns[i].start = 0
        case neg =>
          rw [hend3 (by rw [hTt, if_pos k1]; exact k1), hTt, if_pos k1]
          simp (maxSteps := 4000000) [hd0, hfr, hout, hcl, hcd, delA_none, a1, a1_n, a1_d, a1_m, a2, a2_n, a2_d, a2_m, a3, a3_n, a3_d, a3_m, k1]
        simp (maxSteps := 4000000) [hd0, hfr, hout, hcl, hcd, delA_none, a1, a1_n, a1_d, a1_m, a2, a2_n, a2_d, a2_m, a3, a3_n, a3_d, a3_m, k1]
        refine LK.intro (m' - 1) [1, 5, 42, 43, 44, 107, 108, 109] [] (by omega) (by decide) (by simp (maxSteps := 4000000) [hd0, hfr, hout, hcl, hcd, delA_none, a1, a1_n, a1_d, a1_m, a2, a2_n, a2_d, a2_m, a3, a3_n, a3_d, a3_m]) ⟨1, by omega, fun h => by omega, by simp [show IntKind.i64.wrap 1 = 1 by decide]⟩
      · have k1 := z1 (by omega)
        simp (maxSteps := 4000000) [hd0, hfr, hout, hcl, hcd, delA_none, a1, a1_n, a1_d, a1_m, a2, a2_n, a2_d, a2_m, a3, a3_n, a3_d, a3_m]
        refine (impl_cellsFault _ l2 (by simp (maxSteps := 4000000) [hd0, hfr, hout, hcl, hcd, delA_none, a1, a1_n, a1_d, a1_m, a2, a2_n, a2_d, a2_m, a3, a3_n, a3_d, a3_m, s2])).useCK ?_
        by_cases k2 : cellsF none x.txns[i].now = 0
        case neg =>
          rw [hend3 (by rw [hTt, if_neg (by simp [k1]), if_pos k2]; exact k2), hTt, if_neg (by simp [k1]), if_pos k2]
          simp (maxSteps := 4000000) [hd0, hfr, hout, hcl, hcd, delA_none, a1, a1_n, a1_d, a1_m, a2, a2_n, a2_d, a2_m, a3, a3_n, a3_d, a3_m, k2]
        simp (maxSteps := 4000000) [hd0, hfr, hout, hcl, hcd, delA_none, a1, a1_n, a1_d, a1_m, a2, a2_n, a2_d, a2_m, a3, a3_n, a3_d, a3_m, k2]
        refine LK.intro (m' - 1) [1, 5, 42, 43, 44, 107, 108, 109] [] (by omega) (by decide) (by simp (maxSteps := 4000000) [hd0, hfr, hout, hcl, hcd, delA_none, a1, a1_n, a1_d, a1_m, a2, a2_n, a2_d, a2_m, a3, a3_n, a3_d, a3_m]) ⟨2, by omega, fun _ => k1, by simp [show IntKind.i64.wrap 2 = 2 by decide]⟩
      · have k1 := z1 (by omega)
        have k2 := z2 (by omega)
        rw [if_neg (by simp [k1]), if_neg (by simp [k2])] at hTt
        simp (maxSteps := 4000000) [hd0, hfr, hout, hcl, hcd, delA_none, a1, a1_n, a1_d, a1_m, a2, a2_n, a2_d, a2_m, a3, a3_n, a3_d, a3_m]
        refine (slices_ContainsFunc_int64 _ (g := 90) (caps := []) (P := fun k => !inR k 0 31) l3 (by simp (maxSteps := 4000000) [hd0, hfr, hout, hcl, hcd, delA_none, a1, a1_n, a1_d, a1_m, a2, a2_n, a2_d, a2_m, a3, a3_n, a3_d, a3_m, s3]) (by simp) (by kernel_rfl) (fun v => impl_CopiesFault_2 _)).useCK ?_
        by_cases k3 : (x.txns[i].wrote.any fun k => !inR k 0 31) = true
        case pos =>
          have hW : wrF x.txns[i].wrote = 3 := by unfold wrF; rw [if_pos k3]
          rw [hend3 (by rw [hTt, hW]; decide), hTt, hW, k3]
          simp (maxSteps := 4000000) [hd0, hfr, hout, hcl, hcd, delA_none, a1, a1_n, a1_d, a1_m, a2, a2_n, a2_d, a2_m, a3, a3_n, a3_d, a3_m]
        simp only [Bool.not_eq_true] at k3
        rw [k3]
        simp (maxSteps := 4000000) [hd0, hfr, hout, hcl, hcd, delA_none, a1, a1_n, a1_d, a1_m, a2, a2_n, a2_d, a2_m, a3, a3_n, a3_d, a3_m]
        refine (impl_rise _ l3 (by simp (maxSteps := 4000000) [hd0, hfr, hout, hcl, hcd, delA_none, a1, a1_n, a1_d, a1_m, a2, a2_n, a2_d, a2_m, a3, a3_n, a3_d, a3_m, s3])).useCK ?_
        by_cases k4 : riseF none x.txns[i].wrote = true
        case neg =>
          simp only [Bool.not_eq_true] at k4
          have hW : wrF x.txns[i].wrote = 1 := by unfold wrF; rw [if_neg (by simp [k3]), if_pos k4]
          rw [hend3 (by rw [hTt, hW]; decide), hTt, hW, k4]
          simp (maxSteps := 4000000) [hd0, hfr, hout, hcl, hcd, delA_none, a1, a1_n, a1_d, a1_m, a2, a2_n, a2_d, a2_m, a3, a3_n, a3_d, a3_m]
        have hW : wrF x.txns[i].wrote = 0 := by unfold wrF; rw [if_neg (by simp [k3]), if_neg (by simp [k4])]
        rw [k4]
        rw [hTt, hW] at hinv
        simp only [ne_eq, not_true_eq_false, if_false] at hinv
        simp (maxSteps := 4000000) [hd0, hfr, hout, hcl, hcd, delA_none, a1, a1_n, a1_d, a1_m, a2, a2_n, a2_d, a2_m, a3, a3_n, a3_d, a3_m, w1]
        refine LK.intro (m - 1) [1, 42, 43, 44] [107, 5] (by omega) (by decide) (by simp (maxSteps := 4000000) [hd0, hfr, hout, hcl, hcd, delA_none, a1, a1_n, a1_d, a1_m, a2, a2_n, a2_d, a2_m, a3, a3_n, a3_d, a3_m]) ⟨i + 1, by omega, by rw [hend]; exact hinv, by simp⟩
end Go.Proofs.Ythejobdlfomcjaa

namespace Go.Proofs.Ythejobdlfomcjaa
open Go Go.Px Go.RowKit Go.Proofs
set_option linter.unnecessarySimpa false
set_option linter.unusedVariables false
set_option linter.unusedSimpArgs false
set_option maxRecDepth 100000
attribute [-simp] Int.not_le Int.not_lt
theorem laws_FnExactCopiesFault (H : HH) {r0_2 q0_2} {r0_3 q0_3} {r0_4 q0_4} {x0 : DCopies} (w0 : x0.wf) (hm0 : x0.le 9223372036854775807)
    (a0_2 : arrAt H r0_2 q0_2 = some (2, x0.now.map DCell.enc)) (a0_3 : arrAt H r0_3 q0_3 = some (1, x0.last.map encI)) (a0_4 : arrAt H r0_4 q0_4 = some (6, x0.txns.map DCopied.enc)) :
    PFun Try.prog 3 [.a [.v (.int .i64 x0.next), .v (.int .i64 x0.clock), .sl r0_2 q0_2 2 0 x0.now.length, .sl r0_3 q0_3 1 0 x0.last.length, .sl r0_4 q0_4 6 0 x0.txns.length]] H (B true) := by
  refine PFun.of [1, 2, 3, 4, 5, 6, 11, 21, 26] Try.func3 rfl (by simp [Try.f3]) ?_
  intro d hd0 hfr hcl hout
  have hcd : ∀ n q, CleanH (hit [((d, n), q)]) H := fun n q => hcl.at
  have a0_2_n : ∀ n, ¬ (d, n) = r0_2 := fun n => nm_ne (ne_of_arr hfr a0_2)
  have a0_2_d : ¬ r0_2.1 = d := ne_of_arr hfr a0_2
  have a0_2_m : ∀ n, ¬ r0_2 = (d, n) := fun n => nm_ne' (ne_of_arr hfr a0_2)
  have a0_3_n : ∀ n, ¬ (d, n) = r0_3 := fun n => nm_ne (ne_of_arr hfr a0_3)
  have a0_3_d : ¬ r0_3.1 = d := ne_of_arr hfr a0_3
  have a0_3_m : ∀ n, ¬ r0_3 = (d, n) := fun n => nm_ne' (ne_of_arr hfr a0_3)
  have a0_4_n : ∀ n, ¬ (d, n) = r0_4 := fun n => nm_ne (ne_of_arr hfr a0_4)
  have a0_4_d : ¬ r0_4.1 = d := ne_of_arr hfr a0_4
  have a0_4_m : ∀ n, ¬ r0_4 = (d, n) := fun n => nm_ne' (ne_of_arr hfr a0_4)
  simp (maxSteps := 4000000) [hd0, hfr, hout, hcl, hcd, delA_none, a0_2, a0_2_n, a0_2_d, a0_2_m, a0_3, a0_3_n, a0_3_d, a0_3_m, a0_4, a0_4_n, a0_4_d, a0_4_m, Try.f3]
  have hok0 := DCopies.ok.2 hm0
  refine (laws_szCopies _ (row := x0.enc) hok0 (by simp only [DCopies.enc, Refs_v, Refs_own, Refs_nil, List.length_map]; exact ⟨_, rfl, ⟨_, rfl, ⟨_, _, _, rfl, by simp (maxSteps := 4000000) [hd0, hfr, hout, hcl, hcd, delA_none, a0_2, a0_2_n, a0_2_d, a0_2_m, a0_3, a0_3_n, a0_3_d, a0_3_m, a0_4, a0_4_n, a0_4_d, a0_4_m], ⟨_, _, _, rfl, by simp (maxSteps := 4000000) [hd0, hfr, hout, hcl, hcd, delA_none, a0_2, a0_2_n, a0_2_d, a0_2_m, a0_3, a0_3_n, a0_3_d, a0_3_m, a0_4, a0_4_n, a0_4_d, a0_4_m], ⟨_, _, _, rfl, by simp (maxSteps := 4000000) [hd0, hfr, hout, hcl, hcd, delA_none, a0_2, a0_2_n, a0_2_d, a0_2_m, a0_3, a0_3_n, a0_3_d, a0_3_m, a0_4, a0_4_n, a0_4_d, a0_4_m], rfl⟩⟩⟩⟩⟩) (by omega) (by omega)).useCK ?_
  by_cases s0 : (cntR x0.enc : Int) ≤ 1048576
  case neg => rw [szV_neg s0]; simp (maxSteps := 4000000) [hd0, hfr, hout, hcl, hcd, delA_none, a0_2, a0_2_n, a0_2_d, a0_2_m, a0_3, a0_3_n, a0_3_d, a0_3_m, a0_4, a0_4_n, a0_4_d, a0_4_m]
  rw [szV_pos s0]
  obtain ⟨L1, hL1⟩ : ∃ L : Int, L = 1048576 - (cntR x0.enc : Int) := ⟨_, rfl⟩
  rw [← hL1]
  simp (maxSteps := 4000000) [hd0, hfr, hout, hcl, hcd, delA_none, a0_2, a0_2_n, a0_2_d, a0_2_m, a0_3, a0_3_n, a0_3_d, a0_3_m, a0_4, a0_4_n, a0_4_d, a0_4_m, show ¬ (L1 < 0) by omega]
  have hok02 : okCopies 1048576 x0.enc := okCopies_le hok0 (by omega)
  have hl0 : x0.le 1048576 := DCopies.ok.1 hok02
  have hT0 : ∀ H {r0_2 q0_2} {r0_3 q0_3} {r0_4 q0_4}, arrAt H r0_2 q0_2 = some (2, x0.now.map DCell.enc) → arrAt H r0_3 q0_3 = some (1, x0.last.map encI) → arrAt H r0_4 q0_4 = some (6, x0.txns.map DCopied.enc) → PFun Try.prog 16 [.a [.v (.int .i64 x0.next), .v (.int .i64 x0.clock), .sl r0_2 q0_2 2 0 x0.now.length, .sl r0_3 q0_3 1 0 x0.last.length, .sl r0_4 q0_4 6 0 x0.txns.length]] H (.a [.v (.int .i64 x0.next), .v (.int .i64 x0.clock), .own 2 (x0.now.map DCell.enc), .own 1 (x0.last.map encI), .own 6 (x0.txns.map DCopied.enc)]) := fun H r0_2 q0_2 r0_3 q0_3 r0_4 q0_4 h0 h1 h2 =>
    laws_toCopies H (row := x0.enc) hok02 (by simp only [DCopies.enc, Refs_v, Refs_own, Refs_nil, List.length_map]; exact ⟨_, rfl, ⟨_, rfl, ⟨_, _, _, rfl, h0, ⟨_, _, _, rfl, h1, ⟨_, _, _, rfl, h2, rfl⟩⟩⟩⟩⟩)
  obtain ⟨y, hy⟩ : ∃ y, y = copF x0 := ⟨_, rfl⟩
  have hSr : ∀ H {r0_2 q0_2} {r0_3 q0_3} {r0_4 q0_4}, arrAt H r0_2 q0_2 = some (2, x0.now.map DCell.enc) → arrAt H r0_3 q0_3 = some (1, x0.last.map encI) → arrAt H r0_4 q0_4 = some (6, x0.txns.map DCopied.enc) → PFun Try.prog 15 [.a [.v (.int .i64 x0.next), .v (.int .i64 x0.clock), .sl r0_2 q0_2 2 0 x0.now.length, .sl r0_3 q0_3 1 0 x0.last.length, .sl r0_4 q0_4 6 0 x0.txns.length]] H (.c (.v (.int .i64 y))) := fun H r0_2 q0_2 r0_3 q0_3 r0_4 q0_4 h0 h1 h2 => by rw [hy]; exact spec_CopiesFault _ hl0 h0 h1 h2
  have hIr : ∀ H {r0_2 q0_2} {r0_3 q0_3} {r0_4 q0_4}, arrAt H r0_2 q0_2 = some (2, x0.now.map DCell.enc) → arrAt H r0_3 q0_3 = some (1, x0.last.map encI) → arrAt H r0_4 q0_4 = some (6, x0.txns.map DCopied.enc) → PFun Try.prog 17 [.a [.v (.int .i64 x0.next), .v (.int .i64 x0.clock), .sl r0_2 q0_2 2 0 x0.now.length, .sl r0_3 q0_3 1 0 x0.last.length, .sl r0_4 q0_4 6 0 x0.txns.length]] H (.c (.v (.int .i64 y))) := fun H r0_2 q0_2 r0_3 q0_3 r0_4 q0_4 h0 h1 h2 => by rw [hy]; exact impl_CopiesFault _ hl0 h0 h1 h2
  have hS : ∀ H, PFun Try.prog 15 [.a [.v (.int .i64 x0.next), .v (.int .i64 x0.clock), .own 2 (x0.now.map DCell.enc), .own 1 (x0.last.map encI), .own 6 (x0.txns.map DCopied.enc)]] H (.c (.v (.int .i64 y))) := fun H => PFun.root rfl (fun d => by simp [T.clean, Clean.v]) (fun d hd hf => by simpa using hSr _ (r0_2 := (d, 2)) (q0_2 := []) (r0_3 := (d, 3)) (q0_3 := []) (r0_4 := (d, 4)) (q0_4 := []) (by simp) (by simp) (by simp))
  clear hy
  refine (hT0 _ (by simp (maxSteps := 4000000) [hd0, hfr, hout, hcl, hcd, delA_none, a0_2, a0_2_n, a0_2_d, a0_2_m, a0_3, a0_3_n, a0_3_d, a0_3_m, a0_4, a0_4_n, a0_4_d, a0_4_m]) (by simp (maxSteps := 4000000) [hd0, hfr, hout, hcl, hcd, delA_none, a0_2, a0_2_n, a0_2_d, a0_2_m, a0_3, a0_3_n, a0_3_d, a0_3_m, a0_4, a0_4_n, a0_4_d, a0_4_m]) (by simp (maxSteps := 4000000) [hd0, hfr, hout, hcl, hcd, delA_none, a0_2, a0_2_n, a0_2_d, a0_2_m, a0_3, a0_3_n, a0_3_d, a0_3_m, a0_4, a0_4_n, a0_4_d, a0_4_m])).useCK ?_
  simp (maxSteps := 4000000) [hd0, hfr, hout, hcl, hcd, delA_none, a0_2, a0_2_n, a0_2_d, a0_2_m, a0_3, a0_3_n, a0_3_d, a0_3_m, a0_4, a0_4_n, a0_4_d, a0_4_m]
  refine (hS _).useCK ?_
  simp (maxSteps := 4000000) [hd0, hfr, hout, hcl, hcd, delA_none, a0_2, a0_2_n, a0_2_d, a0_2_m, a0_3, a0_3_n, a0_3_d, a0_3_m, a0_4, a0_4_n, a0_4_d, a0_4_m]
  refine (hT0 _ (by simp (maxSteps := 4000000) [hd0, hfr, hout, hcl, hcd, delA_none, a0_2, a0_2_n, a0_2_d, a0_2_m, a0_3, a0_3_n, a0_3_d, a0_3_m, a0_4, a0_4_n, a0_4_d, a0_4_m]) (by simp (maxSteps := 4000000) [hd0, hfr, hout, hcl, hcd, delA_none, a0_2, a0_2_n, a0_2_d, a0_2_m, a0_3, a0_3_n, a0_3_d, a0_3_m, a0_4, a0_4_n, a0_4_d, a0_4_m]) (by simp (maxSteps := 4000000) [hd0, hfr, hout, hcl, hcd, delA_none, a0_2, a0_2_n, a0_2_d, a0_2_m, a0_3, a0_3_n, a0_3_d, a0_3_m, a0_4, a0_4_n, a0_4_d, a0_4_m])).useCK ?_
  simp (maxSteps := 4000000) [hd0, hfr, hout, hcl, hcd, delA_none, a0_2, a0_2_n, a0_2_d, a0_2_m, a0_3, a0_3_n, a0_3_d, a0_3_m, a0_4, a0_4_n, a0_4_d, a0_4_m]
  refine (hIr _ (by simp (maxSteps := 4000000) [hd0, hfr, hout, hcl, hcd, delA_none, a0_2, a0_2_n, a0_2_d, a0_2_m, a0_3, a0_3_n, a0_3_d, a0_3_m, a0_4, a0_4_n, a0_4_d, a0_4_m]) (by simp (maxSteps := 4000000) [hd0, hfr, hout, hcl, hcd, delA_none, a0_2, a0_2_n, a0_2_d, a0_2_m, a0_3, a0_3_n, a0_3_d, a0_3_m, a0_4, a0_4_n, a0_4_d, a0_4_m]) (by simp (maxSteps := 4000000) [hd0, hfr, hout, hcl, hcd, delA_none, a0_2, a0_2_n, a0_2_d, a0_2_m, a0_3, a0_3_n, a0_3_d, a0_3_m, a0_4, a0_4_n, a0_4_d, a0_4_m])).useCK ?_
  simp (maxSteps := 4000000) [hd0, hfr, hout, hcl, hcd, delA_none, a0_2, a0_2_n, a0_2_d, a0_2_m, a0_3, a0_3_n, a0_3_d, a0_3_m, a0_4, a0_4_n, a0_4_d, a0_4_m]
  refine DrawK.intro 5 [26] rfl (by kernel_rfl) (by decide) ?_
  simp (maxSteps := 4000000) [hd0, hfr, hout, hcl, hcd, delA_none, a0_2, a0_2_n, a0_2_d, a0_2_m, a0_3, a0_3_n, a0_3_d, a0_3_m, a0_4, a0_4_n, a0_4_d, a0_4_m]
  refine ⟨_, hT0 _ (by simp (maxSteps := 4000000) [hd0, hfr, hout, hcl, hcd, delA_none, a0_2, a0_2_n, a0_2_d, a0_2_m, a0_3, a0_3_n, a0_3_d, a0_3_m, a0_4, a0_4_n, a0_4_d, a0_4_m]) (by simp (maxSteps := 4000000) [hd0, hfr, hout, hcl, hcd, delA_none, a0_2, a0_2_n, a0_2_d, a0_2_m, a0_3, a0_3_n, a0_3_d, a0_3_m, a0_4, a0_4_n, a0_4_d, a0_4_m]) (by simp (maxSteps := 4000000) [hd0, hfr, hout, hcl, hcd, delA_none, a0_2, a0_2_n, a0_2_d, a0_2_m, a0_3, a0_3_n, a0_3_d, a0_3_m, a0_4, a0_4_n, a0_4_d, a0_4_m]), ?_⟩
  simp (maxSteps := 4000000) [hd0, hfr, hout, hcl, hcd, delA_none, a0_2, a0_2_n, a0_2_d, a0_2_m, a0_3, a0_3_n, a0_3_d, a0_3_m, a0_4, a0_4_n, a0_4_d, a0_4_m]
  refine And.intro (by kernel_rfl) ?_
  have hEx0 : ∀ H, arrAt H (d, 5) [] = some (5, [x0.enc]) → PFun Try.prog 18 [.a [.v (.int .i64 x0.next), .v (.int .i64 x0.clock), .sl (d, 5) [(0, 2)] 2 0 x0.now.length, .sl (d, 5) [(0, 3)] 1 0 x0.last.length, .sl (d, 5) [(0, 4)] 6 0 x0.txns.length], .a [.v (.int .i64 x0.next), .v (.int .i64 x0.clock), .own 2 (x0.now.map DCell.enc), .own 1 (x0.last.map encI), .own 6 (x0.txns.map DCopied.enc)]] H (B true) := fun H h => by
    refine PFun.root rfl (fun d => by simp) (fun d2 hd hf => ?_)
    have n1 : ∀ n, ¬ (d2, n) = (d, 5) := fun n => nm_ne (ne_of_arr hf h)
    have := laws_eqCopies (((d2, 7), .own 2 (x0.now.map DCell.enc)) :: ((d2, 8), .own 1 (x0.last.map encI)) :: ((d2, 9), .own 6 (x0.txns.map DCopied.enc)) :: H) (row := x0.enc) (cs := [.v (.int .i64 x0.next), .v (.int .i64 x0.clock), .sl (d, 5) [(0, 2)] 2 0 x0.now.length, .sl (d, 5) [(0, 3)] 1 0 x0.last.length, .sl (d, 5) [(0, 4)] 6 0 x0.txns.length]) (cs' := [.v (.int .i64 x0.next), .v (.int .i64 x0.clock), .sl (d2, 7) [] 2 0 x0.now.length, .sl (d2, 8) [] 1 0 x0.last.length, .sl (d2, 9) [] 6 0 x0.txns.length]) hok02 (by simp only [DCopies.enc, Refs_v, Refs_own, Refs_nil, List.length_map]; exact ⟨_, rfl, ⟨_, rfl, ⟨_, _, _, rfl, (by simp only [arrAt_cons, n1, if_false]; exact arrAt_sub h (i := 0) (f := 2) rfl rfl), ⟨_, _, _, rfl, (by simp only [arrAt_cons, n1, if_false]; exact arrAt_sub h (i := 0) (f := 3) rfl rfl), ⟨_, _, _, rfl, (by simp only [arrAt_cons, n1, if_false]; exact arrAt_sub h (i := 0) (f := 4) rfl rfl), rfl⟩⟩⟩⟩⟩) (by simp only [DCopies.enc, Refs_v, Refs_own, Refs_nil, List.length_map]; exact ⟨_, rfl, ⟨_, rfl, ⟨_, _, _, rfl, by simp, ⟨_, _, _, rfl, by simp, ⟨_, _, _, rfl, by simp, rfl⟩⟩⟩⟩⟩)
    simpa using this
  refine ⟨_, hEx0 _ (by simp (maxSteps := 4000000) [hd0, hfr, hout, hcl, hcd, delA_none, a0_2, a0_2_n, a0_2_d, a0_2_m, a0_3, a0_3_n, a0_3_d, a0_3_m, a0_4, a0_4_n, a0_4_d, a0_4_m, DCopies.enc]), ?_⟩
  simp (maxSteps := 4000000) [hd0, hfr, hout, hcl, hcd, delA_none, a0_2, a0_2_n, a0_2_d, a0_2_m, a0_3, a0_3_n, a0_3_d, a0_3_m, a0_4, a0_4_n, a0_4_d, a0_4_m]
end Go.Proofs.Ythejobdlfomcjaa

namespace Go.Px
set_option linter.unusedSimpArgs false
open Go.RowKit Go.Deep
set_option linter.unusedVariables false
/-- Values that are read as cells, whatever references mean. -/
def In (w : World) (L : List Cell) (V : List Value) : Prop := ∃ F, (∀ R, VRep R w L V F) ∧ ∀ b ∈ F, b < w.heap.size
theorem In.nil {w} : In w [] [] := ⟨[], fun _ => .nil, by simp⟩
theorem In.append {w L V L' V'} (h : In w L V) (h' : In w L' V') : In w (L ++ L') (V ++ V') := by
  obtain ⟨F, h1, h2⟩ := h
  obtain ⟨F', h3, h4⟩ := h'
  exact ⟨F ++ F', fun R => (h1 R).append (h3 R), fun b hb => (List.mem_append.1 hb).elim (h2 b) (h4 b)⟩
theorem In.length {w L V} (h : In w L V) : V.length = L.length := by
  obtain ⟨F, h1, _⟩ := h
  exact (h1 fun _ _ => True).length
theorem look_roots {l : List Cell} : ∀ {k j : Nat} {z els}, l[j]? = some (.own z els) → look (roots k l) (0, k + j) = some (.own z els) := by
  induction l with
  | nil => intro k j z els h; simp at h
  | cons c t ih =>
    intro k j z els h
    cases j with
    | zero => simp at h; subst h; simp [roots, look]
    | succ j =>
      have := ih (k := k + 1) (j := j) (by simpa using h)
      rw [show k + 1 + j = k + (j + 1) by omega] at this
      cases c with
      | own z' els' =>
        simp only [roots, look]
        rw [if_neg (fun e => by have := congrArg Prod.snd e; simp at this)]
        exact this
      | _ => simpa [roots] using this
/-- What came in, as named objects; and the references of each argument. -/
theorem In.open {w : World} {L : List Cell} {V : List Value} (h : In w L V) : ∃ β : Nm → Value, Holds w.heap.size (VP w β (roots 0 L)) w β (roots 0 L) [] ∧
    ∀ L0 L1 L2 V0 V1 V2, L = L0 ++ L1 ++ L2 → V = V0 ++ V1 ++ V2 → In w L0 V0 → In w L1 V1 → noRef L1 = true → VRep (VP w β (roots 0 L)) w (refs L0.length L1) V1 [] := by
  have hlen := h.length
  obtain ⟨F, h1, h2⟩ := h
  refine ⟨fun r => V.getD r.2 undef, roots_holds (h1 _) h2 (fun j v hj => ?_), fun L0 L1 L2 V0 V1 V2 hL hV i0 i1 hn => ?_⟩
  · show V.getD (0 + j) undef = v
    rw [Nat.zero_add, List.getD_eq_getElem?_getD, hj]; rfl
  · have l0 := i0.length
    have l1 := i1.length
    obtain ⟨F1, k1, k2⟩ := i1
    refine refs_rep (R := fun _ _ => True) (R' := fun _ _ => True) hn (k1 _) (fun j v hj => ?_) (fun j z els hj => ?_)
    · show V.getD (L0.length + j) undef = v
      have hlt := (List.getElem?_eq_some_iff.1 hj).1
      rw [List.getD_eq_getElem?_getD, hV, List.append_assoc, List.getElem?_append_right (by omega), List.getElem?_append_left (by omega), ← l0, Nat.add_sub_cancel_left, hj]; rfl
    · have hlt := (List.getElem?_eq_some_iff.1 hj).1
      have : L[L0.length + j]? = some (.own z els) := by
        rw [hL, List.append_assoc, List.getElem?_append_right (by omega), List.getElem?_append_left (by omega), Nat.add_sub_cancel_left, hj]
      have := look_roots (k := 0) this
      rwa [Nat.zero_add] at this
theorem Px.Op.in_ {α : Type} {P : Program} {t : TypeId} {n : Nat} {enc : α → List Cell} {q : α → Prop} (h : Px.Op P t n enc q) {H : Type} {e : TypeId × Value → H} {w : World} {base : Nat} {held : Bool} {fuel : Nat} {cs : List Value} {x : DataW H × List MemPlace}
    (hx : DataW.trod e P w base (fun _ => true) held fuel t cs = some x) (hz : w.noneFrozen x.2) : ∃ v : α, In w (enc v) cs ∧ q v := by
  obtain ⟨v, F, h1, h2, h3, h4⟩ := h H e w base held fuel cs x hx hz
  exact ⟨v, ⟨F, h1, h3⟩, h4⟩
theorem VRep.single {R w c v F} (h : VRep R w [c] [v] F) : Rep R w c v F := by
  cases h with | cons a b => cases b; simpa using a
end Go.Px
